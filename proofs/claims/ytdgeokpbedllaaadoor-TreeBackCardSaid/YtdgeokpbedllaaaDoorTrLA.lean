-- A text of the kit's tools for this claim, its remarks left out.
import Derived.Test.YtdgeokpbedllaaaDoorStr
import Derived.Test.YtdgeokpbedllaaaDoorETrex6
import Derived.Test.YtdgeokpbedllaaaDoorETrex7
import Derived.Test.YtdgeokpbedllaaaDoorETrex10
import Derived.Test.YtdgeokpbedllaaaDoorETrex13
import Derived.Test.YtdgeokpbedllaaaDoorETrex14
namespace Go.Proofs.YtdgeokpbedllaaaDoor.Base
open Go.RowKit Go.Proofs.YtdgeokpbedllaaaDoor.PTre Go.Proofs.YtdgeokpbedllaaaDoorW.PrintWords Go.Proofs.YtdgeokpbedllaaaDoorW.PrintLast Go.Proofs.YtdgeokpbedllaaaDoorW.PrintMore
set_option linter.unusedVariables false
set_option linter.unusedSimpArgs false
def chn (c : Int) : Bool := (decide (48 ≤ c) && decide (c ≤ 57)) || (decide (97 ≤ c) && decide (c ≤ 122)) || (decide (65 ≤ c) && decide (c ≤ 90)) || decide (c = 45)
theorem chn_iff (c : Int) : chn c = true ↔ (48 ≤ c ∧ c ≤ 57) ∨ (97 ≤ c ∧ c ≤ 122) ∨ (65 ≤ c ∧ c ≤ 90) ∨ c = 45 := by
 unfold chn
 simp only [Bool.or_eq_true, Bool.and_eq_true, decide_eq_true_eq, or_assoc]
def nmS (l : List Int) : Bool := l.all chn && (decide (1 ≤ l.length) && decide (l.length ≤ 40))
theorem nmS_iff {l : List Int} : nmS l = true ↔ l.all chn = true ∧ 1 ≤ l.length ∧ l.length ≤ 40 := by unfold nmS; simp [and_assoc]
theorem name_L0 (s : ByteArray) (hs : s.size ≤ 9223372036854775806) : ∀ (n : Nat) (i : Int), n = (s.size : Int).toNat - i.toNat → 0 ≤ i → i ≤ (s.size : Int) →
  line_name.L0 s (s.size : Int) i = some ((rest s i).all chn && (decide (1 ≤ s.size) && decide (s.size ≤ 40))) := by
 intro n
 induction n with
 | zero =>
  intro i hn h0 h1
  rw [line_name.L0_eq, if_neg (by omega), rest_nil (by omega), List.all_nil, Bool.true_and]
  by_cases h : (s.size : Int) ≥ 1
  ·rw [if_pos h, decide_eq_true (show 1 ≤ s.size by omega), Bool.true_and]
   congr 1
   rw [decide_eq_decide]
   omega
  ·rw [if_neg h, decide_eq_false (show ¬ 1 ≤ s.size by omega), Bool.false_and]
 | succ n ih =>
  intro i hn h0 h1
  have hlt : i < (s.size : Int) := by omega
  rw [line_name.L0_eq, if_pos hlt, if_pos h0, if_pos hlt, wrap64_id (n := i + 1) (by omega) (by omega), ih (i + 1) (by omega) (by omega) (by omega), rest_cons h0 hlt, List.all_cons]
  generalize bt s i = c
  cases hd : chn c with
  | true =>
   have hc := (chn_iff c).1 hd
   rw [Bool.true_and]
   repeat' split
   all_goals first | rfl | (exfalso; omega)
  | false =>
   have hc : ¬ ((48 ≤ c ∧ c ≤ 57) ∨ (97 ≤ c ∧ c ≤ 122) ∨ (65 ≤ c ∧ c ≤ 90) ∨ c = 45) := fun h => by
    rw [(chn_iff c).2 h] at hd
    cases hd
   rw [Bool.false_and, Bool.false_and]
   repeat' split
   all_goals first | rfl | (exfalso; omega)
theorem name_eq (s : ByteArray) (hs : s.size ≤ 9223372036854775806) : line_name.F s = some (nmS (bytesOf s)) := by
 have hz := size_len s
 rw [line_name.F_eq, name_L0 s hs _ 0 rfl (by omega) (by omega), rest_zero]
 unfold nmS
 rw [show s.size = (bytesOf s).length by omega]
def clr (c : Int) : Bool := (decide (32 ≤ c) && decide (c ≠ 127)) || decide (c = 9)
theorem clr_iff (c : Int) : clr c = true ↔ (32 ≤ c ∧ c ≠ 127) ∨ c = 9 := by
 unfold clr
 simp only [Bool.or_eq_true, Bool.and_eq_true, decide_eq_true_eq]
theorem plain_L0 (s : ByteArray) (hs : s.size ≤ 9223372036854775806) : ∀ (n : Nat) (i : Int), n = (s.size : Int).toNat - i.toNat → 0 ≤ i → i ≤ (s.size : Int) →
  line_plain.L0 s (s.size : Int) i = some ((rest s i).all clr) := by
 intro n
 induction n with
 | zero =>
  intro i hn h0 h1
  rw [line_plain.L0_eq, if_neg (by omega), rest_nil (by omega), List.all_nil]
 | succ n ih =>
  intro i hn h0 h1
  have hlt : i < (s.size : Int) := by omega
  rw [line_plain.L0_eq, if_pos hlt, if_pos h0, if_pos hlt, wrap64_id (n := i + 1) (by omega) (by omega), ih (i + 1) (by omega) (by omega) (by omega), rest_cons h0 hlt, List.all_cons]
  generalize bt s i = c
  cases hd : clr c with
  | true =>
   have hc := (clr_iff c).1 hd
   rw [Bool.true_and]
   repeat' split
   all_goals first | rfl | (exfalso; omega)
  | false =>
   have hc : ¬ ((32 ≤ c ∧ c ≠ 127) ∨ c = 9) := fun h => by
    rw [(clr_iff c).2 h] at hd
    cases hd
   rw [Bool.false_and]
   repeat' split
   all_goals first | rfl | (exfalso; omega)
theorem plain_eq (s : ByteArray) (hs : s.size ≤ 9223372036854775806) : line_plain.F s = some ((bytesOf s).all clr) := by
 rw [line_plain.F_eq, plain_L0 s hs _ 0 rfl (by omega) (by omega), rest_zero]
def vlS (l : List Int) : Bool := l.all clr && decide ((34 : Int) ∉ l)
theorem vlS_iff {l : List Int} : vlS l = true ↔ l.all clr = true ∧ (34 : Int) ∉ l := by unfold vlS; simp
theorem value_eq (s : ByteArray) (hs : s.size ≤ 9223372036854775806) : line_value.F s = some (vlS (bytesOf s)) := by
 have hm := index_mem s.data.toList 34 (by omega) (by omega)
 have h34 : strings_IndexByte.f s 34 = some (Lib.indexByte s.data.toList (34 : Int).toNat.toUInt8) := rfl
 rw [line_value.F_eq, plain_eq s hs, bind_some_]
 unfold vlS
 cases h : (bytesOf s).all clr with
 | false => rw [if_neg (by simp), Bool.false_and]
 | true =>
  rw [if_pos rfl, h34, bind_some_, Bool.true_and]
  congr 1
  rw [decide_eq_decide]
  have hm' : (0 ≤ Lib.indexByte s.data.toList (34 : Int).toNat.toUInt8) ↔ (34 : Int) ∈ bytesOf s := hm
  rw [← hm']
  omega
def Fits (xs : List ByteArray) : Prop := ∀ x ∈ xs, x.size ≤ 9223372036854775806
theorem vals_L0 (xs : List ByteArray) (hf : Fits xs) (hl : xs.length ≤ 9223372036854775806) : ∀ (n : Nat) (i : Int), n = (xs.length : Int).toNat - i.toNat → 0 ≤ i → i ≤ (xs.length : Int) →
  ∃ r, slices_IndexFunc_string_string.L0 xs (xs.length : Int) i = some r ∧ decide (r ≥ 0) = !((xs.drop i.toNat).all fun x => vlS (bytesOf x)) := by
 intro n
 induction n with
 | zero =>
  intro i hn h0 h1
  rw [slices_IndexFunc_string_string.L0_eq, if_neg (by omega), drop_nil_ (by omega)]
  exact ⟨-1, rfl, rfl⟩
 | succ n ih =>
  intro i hn h0 h1
  have hlt : i < (xs.length : Int) := by omega
  obtain ⟨r, e1, e2⟩ := ih (i + 1) (by omega) (by omega) (by omega)
  rw [slices_IndexFunc_string_string.L0_eq, if_pos hlt, if_pos h0, if_pos hlt, line_param_1.F_eq, value_eq _ (hf _ (rdOf_mem ByteArray.empty h0 hlt)), bind_some_, bind_some_, wrap64_id (n := i + 1) (by omega) (by omega), e1, drop_cons_ ByteArray.empty h0 hlt, List.all_cons]
  cases h : vlS (bytesOf (rdOf ByteArray.empty xs i)) with
  | true =>
   rw [if_neg (by simp), Bool.true_and]
   exact ⟨r, rfl, e2⟩
  | false =>
   rw [if_pos (by rfl), Bool.false_and]
   exact ⟨i, rfl, by rw [decide_eq_true (by omega)]; rfl⟩
theorem vals_eq (xs : List ByteArray) (hf : Fits xs) (hl : xs.length ≤ 9223372036854775806) : slices_ContainsFunc_string_string.F xs () = some (!(xs.all fun x => vlS (bytesOf x))) := by
 obtain ⟨r, e1, e2⟩ := vals_L0 xs hf hl _ 0 rfl (by omega) (by omega)
 rw [slices_ContainsFunc_string_string.F_eq, slices_IndexFunc_string_string.F_eq, e1, bind_some_, e2]
 rfl
def prS (p : S70) : Bool := nmS (bytesOf p.f0) && (decide (0 < p.f1.length) && p.f1.all fun x => vlS (bytesOf x))
theorem prS_iff {p : S70} : prS p = true ↔ nmS (bytesOf p.f0) = true ∧ 0 < p.f1.length ∧ ∀ x ∈ p.f1, vlS (bytesOf x) = true := by unfold prS; simp
def FitP (p : S70) : Prop := p.f0.size ≤ 9223372036854775806 ∧ Fits p.f1 ∧ p.f1.length ≤ 9223372036854775806
theorem param_eq (n : ByteArray) (vs : List ByteArray) (hn : n.size ≤ 9223372036854775806) (hf : Fits vs) (hl : vs.length ≤ 9223372036854775806) : line_param.F n vs = some (prS ⟨n, vs⟩) := by
 rw [line_param.F_eq, name_eq n hn, bind_some_, vals_eq vs hf hl]
 unfold prS
 dsimp only
 cases h : nmS (bytesOf n) with
 | false => rw [if_neg (by simp), Bool.false_and]
 | true =>
  rw [if_pos rfl, Bool.true_and]
  by_cases h1 : (vs.length : Int) > 0
  ·rw [if_pos h1, bind_some_, Bool.not_not, decide_eq_true (show 0 < vs.length by omega), Bool.true_and]
  ·rw [if_neg h1, decide_eq_false (show ¬ 0 < vs.length by omega), Bool.false_and]
theorem pars_L0 (xs : List S70) (hf : ∀ p ∈ xs, FitP p) (hl : xs.length ≤ 9223372036854775806) : ∀ (n : Nat) (i : Int), n = (xs.length : Int).toNat - i.toNat → 0 ≤ i → i ≤ (xs.length : Int) →
  ∃ r, api_Param_91.L0 xs (xs.length : Int) i = some r ∧ decide (r ≥ 0) = !((xs.drop i.toNat).all prS) := by
 intro n
 induction n with
 | zero =>
  intro i hn h0 h1
  rw [api_Param_91.L0_eq, if_neg (by omega), drop_nil_ (by omega)]
  exact ⟨-1, rfl, rfl⟩
 | succ n ih =>
  intro i hn h0 h1
  have hlt : i < (xs.length : Int) := by omega
  obtain ⟨r, e1, e2⟩ := ih (i + 1) (by omega) (by omega) (by omega)
  obtain ⟨f1, f2, f3⟩ := hf _ (rdOf_mem z70 h0 hlt)
  have e0 : rd_T70 xs i = rdOf z70 xs i := rfl
  rw [api_Param_91.L0_eq, if_pos hlt, if_pos h0, if_pos hlt, e0, line_Check_1.F_eq, param_eq _ _ f1 f2 f3, bind_some_, bind_some_, wrap64_id (n := i + 1) (by omega) (by omega), e1, drop_cons_ z70 h0 hlt, List.all_cons]
  have e3 : (⟨(rdOf z70 xs i).f0, (rdOf z70 xs i).f1⟩ : S70) = rdOf z70 xs i := rfl
  rw [e3]
  cases h : prS (rdOf z70 xs i) with
  | true =>
   rw [if_neg (by simp), Bool.true_and]
   exact ⟨r, rfl, e2⟩
  | false =>
   rw [if_pos (by rfl), Bool.false_and]
   exact ⟨i, rfl, by rw [decide_eq_true (by omega)]; rfl⟩
theorem pars_eq (xs : List S70) (hf : ∀ p ∈ xs, FitP p) (hl : xs.length ≤ 9223372036854775806) : api_Param_75.F xs () = some (!(xs.all prS)) := by
 obtain ⟨r, e1, e2⟩ := pars_L0 xs hf hl _ 0 rfl (by omega) (by omega)
 rw [api_Param_75.F_eq, api_Param_91.F_eq, e1, bind_some_, e2]
 rfl
def lnS (n : ByteArray) (ps : List S70) (v : ByteArray) : Bool := nmS (bytesOf n) && ((bytesOf v).all clr && ps.all prS)
theorem lnS_iff {n : ByteArray} {ps : List S70} {v : ByteArray} : lnS n ps v = true ↔ nmS (bytesOf n) = true ∧ (bytesOf v).all clr = true ∧ ∀ p ∈ ps, prS p = true := by unfold lnS; simp
theorem Check_eq (n : ByteArray) (ps : List S70) (v : ByteArray) (hn : n.size ≤ 9223372036854775806) (hv : v.size ≤ 9223372036854775806) (hf : ∀ p ∈ ps, FitP p) (hl : ps.length ≤ 9223372036854775806) : line_Check.F n ps v = some (if lnS n ps v = true then 0 else 18) := by
 rw [line_Check.F_eq, name_eq n hn, bind_some_, plain_eq v hv, bind_some_, pars_eq ps hf hl, bind_some_]
 unfold lnS
 cases h1 : nmS (bytesOf n) with
 | false => rw [if_neg (by simp), Bool.false_and, if_neg (by simp)]
 | true =>
  rw [if_pos rfl, Bool.true_and]
  cases h2 : (bytesOf v).all clr with
  | false => rw [if_neg (by simp), Bool.false_and, if_neg (by simp)]
  | true =>
   rw [if_pos rfl, Bool.true_and]
   cases h3 : ps.all prS with
   | false => rw [if_pos (by rfl), if_neg (by simp)]
   | true => rw [if_neg (by simp), if_pos rfl]
def pre (st : List Int) (l : List Int) : List Int := l.takeWhile fun c => !(st.contains c)
def suf (st : List Int) (l : List Int) : List Int := l.dropWhile fun c => !(st.contains c)
theorem pre_suf (st l : List Int) : pre st l ++ suf st l = l := List.takeWhile_append_dropWhile
theorem pre_cons (st : List Int) (c : Int) (l : List Int) : pre st (c :: l) = if st.contains c = true then [] else c :: pre st l := by
 unfold pre
 rw [List.takeWhile_cons]
 cases st.contains c <;> rfl
theorem suf_cons (st : List Int) (c : Int) (l : List Int) : suf st (c :: l) = if st.contains c = true then c :: l else suf st l := by
 unfold suf
 rw [List.dropWhile_cons]
 cases st.contains c <;> rfl
theorem until_L0 (s t : ByteArray) (hs : s.size ≤ 9223372036854775806) : ∀ (n : Nat) (i : Int), n = (s.size : Int).toNat - i.toNat → 0 ≤ i → i ≤ (s.size : Int) →
  line_until.L0 s t (s.size : Int) i = some (i + (pre (bytesOf t) (rest s i)).length) := by
 intro n
 induction n with
 | zero =>
  intro i hn h0 h1
  rw [line_until.L0_eq, if_neg (by omega), rest_nil (by omega)]
  show some (s.size : Int) = some (i + ((0 : Nat) : Int))
  congr 1
  omega
 | succ n ih =>
  intro i hn h0 h1
  have hlt : i < (s.size : Int) := by omega
  have hr := bt_range s i
  have hm := index_mem t.data.toList (bt s i) hr.1 hr.2
  have hi : strings_IndexByte.f t (bt s i) = some (Lib.indexByte t.data.toList (bt s i).toNat.toUInt8) := rfl
  rw [line_until.L0_eq, if_pos hlt, if_pos h0, if_pos hlt, hi, bind_some_, wrap64_id (n := i + 1) (by omega) (by omega), ih (i + 1) (by omega) (by omega) (by omega), rest_cons h0 hlt, pre_cons]
  have hm' : (0 ≤ Lib.indexByte t.data.toList (bt s i).toNat.toUInt8) ↔ bt s i ∈ bytesOf t := hm
  by_cases hb : bt s i ∈ bytesOf t
  ·rw [if_pos (hm'.2 hb), if_pos (List.contains_iff_mem.2 hb)]
   show some i = some (i + ((0 : Nat) : Int))
   congr 1
   omega
  ·rw [if_neg (fun h => hb (hm'.1 h)), if_neg (fun h => hb (List.contains_iff_mem.1 h)), List.length_cons]
   congr 1
   omega
theorem until_eq (s t : ByteArray) (hs : s.size ≤ 9223372036854775806) : line_until.F s t = some ((pre (bytesOf t) (bytesOf s)).length : Int) := by
 rw [line_until.F_eq, until_L0 s t hs _ 0 rfl (by omega) (by omega), rest_zero]
 congr 1
 omega
theorem pre_len (st l : List Int) : (pre st l).length ≤ l.length := by
 have := congrArg List.length (pre_suf st l)
 rw [List.length_append] at this
 omega
theorem takeWhile_imp {p : Int → Bool} {l : List Int} {x : Int} (h : x ∈ l.takeWhile p) : p x = true := List.all_eq_true.1 List.all_takeWhile x h
theorem pre_mem {st l : List Int} {x : Int} (h : x ∈ pre st l) : x ∈ l := (List.takeWhile_sublist _).subset h
theorem take_app {α : Type} {l A B : List α} (h : A ++ B = l) : l.take A.length = A ∧ l.drop A.length = B := by
 subst h
 exact ⟨List.take_left, List.drop_left⟩
theorem take_pre (st : List Int) (s : ByteArray) : s.extract 0 ((pre st (bytesOf s)).length : Int).toNat = strOfNums (pre st (bytesOf s)) := by
 apply bytes_inj
 have hb : Bytes (pre st (bytesOf s)) := fun x hx => bytes_of s x (pre_mem hx)
 rw [bytes_extract, bytes_strOf hb, List.drop_zero, Int.toNat_natCast]
 exact (take_app (pre_suf st (bytesOf s))).1
theorem drop_pre (st : List Int) (s : ByteArray) : s.extract ((pre st (bytesOf s)).length : Int).toNat s.size = strOfNums (suf st (bytesOf s)) := by
 apply bytes_inj
 have hb : Bytes (suf st (bytesOf s)) := fun x hx => bytes_of s x ((List.dropWhile_sublist _).subset hx)
 rw [extract_all, bytes_strOf hb, Int.toNat_natCast]
 exact (take_app (pre_suf st (bytesOf s))).2
theorem suf_bytes {st l : List Int} (h : Bytes l) : Bytes (suf st l) := fun x hx => h x ((List.dropWhile_sublist _).subset hx)
theorem pre_bytes {st l : List Int} (h : Bytes l) : Bytes (pre st l) := fun x hx => h x (pre_mem hx)
end Go.Proofs.YtdgeokpbedllaaaDoor.Base
