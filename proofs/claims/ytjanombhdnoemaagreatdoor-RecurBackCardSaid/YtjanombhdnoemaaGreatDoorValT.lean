-- A text of the kit's tools for this claim, its remarks left out.
import Derived.Test.YtjanombhdnoemaaGreatDoorNumT
import Derived.Test.YtjanombhdnoemaaGreatDoorERecx11
import Derived.Test.YtjanombhdnoemaaGreatDoorPRecx5
import Derived.Test.YtjanombhdnoemaaGreatDoorValC
-- A text of the kit's tools for this claim, its remarks left out.
namespace Go.Proofs.YtjanombhdnoemaaGreatDoor.Base
open Go.RowKit Go.Proofs.YtjanombhdnoemaaGreatDoor.PRec Go.Proofs.YtjanombhdnoemaaGreatDoorW.PrintWords Go.Proofs.YtjanombhdnoemaaGreatDoorW.PrintLast Go.Proofs.YtjanombhdnoemaaGreatDoorW.PrintMore
set_option linter.unusedVariables false
set_option linter.unusedSimpArgs false
def parsS (l : List Int) : Int × Bool := if 1 ≤ l.length ∧ l.length ≤ 18 ∧ l.all isDig = true then (val 0 l, true) else (0, false)
theorem num_Parse_L0 (s : ByteArray) (hs : s.size ≤ 18) : ∀ (n : Nat) (i : Int) (a : Int), n = (s.size : Int).toNat - i.toNat → 0 ≤ i → i ≤ (s.size : Int) → 0 ≤ a → a < (10 : Int) ^ i.toNat →
  num_Parse.L0 s a (s.size : Int) i = some (if (rest s i).all isDig = true then (val a (rest s i), true) else (0, false)) := by
 intro n
 induction n with
 | zero =>
  intro i a hn h0 h1 _ _
  rw [num_Parse.L0_eq, if_neg (by omega), rest_nil (by omega)]
  rfl
 | succ n ih =>
  intro i a hn h0 h1 ha0 ha1
  have hlt : i < (s.size : Int) := by omega
  rw [num_Parse.L0_eq, if_pos hlt, if_pos h0, if_pos hlt, rest_cons h0 hlt, List.all_cons]
  by_cases hd : isDig (bt s i) = true
  ·rw [hd, Bool.true_and]
   rw [isDig_iff] at hd
   rw [if_neg (by omega), if_neg (by omega)]
   have hp : (10 : Int) ^ i.toNat ≤ 10 ^ 17 := by
    have : (10 : Nat) ^ i.toNat ≤ 10 ^ 17 := Nat.pow_le_pow_right (by omega) (by omega)
    exact_mod_cast this
   have hp17 : (10 : Int) ^ 17 = 100000000000000000 := by decide
   have e1 : wrap64 (10 * a) = 10 * a := wrap64_id (by omega) (by omega)
   have e2 : (bt s i - 48) % 256 = bt s i - 48 := by omega
   rw [e1, e2, wrap64_id (by omega) (by omega), wrap64_id (n := i + 1) (by omega) (by omega)]
   rw [ih (i + 1) (10 * a + (bt s i - 48)) (by omega) (by omega) (by omega) (by omega) (by
    rw [show (i + 1).toNat = i.toNat + 1 by omega, Int.pow_succ]
    omega)]
   rfl
  ·have hR : ((isDig (bt s i) && (rest s (i + 1)).all isDig) = true) = False := eq_false (by rw [Bool.and_eq_true]; exact fun h => hd h.1)
   simp only [hR, if_false]
   have : ¬ (48 ≤ bt s i ∧ bt s i ≤ 57) := fun h => hd ((isDig_iff _).2 h)
   by_cases hl : bt s i < 48
   ·rw [if_pos hl]
   ·rw [if_neg hl, if_pos (by omega)]
theorem num_Parse_eq (s : ByteArray) : num_Parse.F s = some (parsS (bytesOf s)) := by
 unfold parsS
 have hz := size_len s
 rw [num_Parse.F_eq]
 by_cases h : (s.size : Int) < 1
 ·rw [if_pos h, num_Parse.J0_eq, if_pos rfl, if_neg (by omega)]
 ·rw [if_neg h, num_Parse.J0_eq]
  by_cases h2 : (s.size : Int) > 18
  ·rw [if_pos (decide_eq_true h2), if_neg (by omega)]
  ·rw [if_neg (by simpa using h2), num_Parse_L0 s (by omega) _ 0 0 rfl (by omega) (by omega) (by omega) (by decide), rest_zero]
   by_cases hd : (bytesOf s).all isDig = true
   ·rw [if_pos hd, if_pos ⟨by omega, by omega, hd⟩]
   ·rw [if_neg hd, if_neg (fun h => hd h.2.2)]
theorem num_Parse_str {l : List Int} (h : Bytes l) : num_Parse.F (strOfNums l) = some (parsS l) := by rw [num_Parse_eq, bytes_strOf h]
end Go.Proofs.YtjanombhdnoemaaGreatDoor.Base

-- A text of the kit's tools for this claim, its remarks left out.
namespace Go.Proofs.YtjanombhdnoemaaGreatDoor.Base
open Go.RowKit Go.Proofs.YtjanombhdnoemaaGreatDoor.PRec Go.Proofs.YtjanombhdnoemaaGreatDoorW.PrintWords Go.Proofs.YtjanombhdnoemaaGreatDoorW.PrintLast Go.Proofs.YtjanombhdnoemaaGreatDoorW.PrintMore
set_option linter.unusedVariables false
set_option linter.unusedSimpArgs false
theorem num_Text_eq (n d : Int) (hn : -9223372036854775808 ≤ n ∧ n ≤ 9223372036854775807) (_hd : -9223372036854775808 ≤ d ∧ d ≤ 9223372036854775807) : num_Text.f n d = some (strOfNums (txt n d)) := by
 unfold num_Text.f txt
 by_cases h : n < 0
 ·rw [if_pos h, if_pos h]; rfl
 ·rw [if_neg h, if_neg h]
  unfold strconv_Itoa.f
  rw [if_pos hn, bind_some_, itoa_eq n (by omega), size_strOf]
  have hl := digs_len20 hn.2
  have hw : wide d = if d < 0 ∨ d > 20 then 0 else d.toNat := rfl
  have hs20 : (strOfNums (digs n.toNat)).size ≤ 20 := by rw [size_strOf]; exact hl
  by_cases h1 : d < 0
  ·rw [if_pos h1, hw, if_pos (Or.inl h1)]
   simp
  ·rw [if_neg h1]
   by_cases h2 : d > 20
   ·rw [if_pos h2, hw, if_pos (Or.inr h2)]
    simp
   ·rw [if_neg h2, hw, if_neg (show ¬ (d < 0 ∨ d > 20) by omega)]
    by_cases h3 : d ≤ ((digs n.toNat).length : Int)
    ·rw [if_pos h3, show d.toNat - (digs n.toNat).length = 0 by omega]
     rfl
    ·rw [if_neg h3, wrap64_id (by omega) (by omega)]
     unfold strings_Repeat.f
     have e : (d - ((digs n.toNat).length : Int)).toNat = d.toNat - (digs n.toNat).length := by omega
     rw [e, if_pos ⟨by omega, by omega, by have : (⟨#[48]⟩ : ByteArray).size = 1 := rfl; rw [this]; omega⟩, bind_some_, rep_eq, size_strOf, if_pos (by rw [List.length_replicate]; omega), strOf_append]
end Go.Proofs.YtjanombhdnoemaaGreatDoor.Base

namespace Go.Proofs.YtjanombhdnoemaaGreatDoor.Base
open Go.RowKit Go.Proofs.YtjanombhdnoemaaGreatDoor.PRec Go.Proofs.YtjanombhdnoemaaGreatDoorW.PrintWords Go.Proofs.YtjanombhdnoemaaGreatDoorW.PrintLast Go.Proofs.YtjanombhdnoemaaGreatDoorW.PrintMore
set_option linter.unusedVariables false
set_option linter.unusedSimpArgs false
theorem clock_Split_eq (n : Int) (h : -9223372036854775808 ≤ n ∧ n ≤ 9223372036854775807) : clock_Split.f n = some (n / 86400, n % 86400) := by
 unfold clock_Split.f
 have := tdiv_wrap (a := n) (b := 86400) (by omega) h (by omega)
 rw [← this]
 split <;> rfl
theorem txt2 {n : Int} (h : 0 ≤ n ∧ n < 100) : txt n 2 = [48 + n / 10, 48 + n % 10] := by
 unfold txt wide
 rw [if_neg (by omega), if_neg (by omega)]
 by_cases h1 : n < 10
 ·rw [digs_small (by omega)]
  have e1 : n / 10 = 0 := by omega
  have e2 : n % 10 = n := by omega
  rw [e1, e2, show ((n.toNat : Nat) : Int) = n by omega]
  rfl
 ·rw [digs_big (by omega), digs_small (by omega), show ((n.toNat / 10 : Nat) : Int) = n / 10 by omega, show ((n.toNat % 10 : Nat) : Int) = n % 10 by omega]
  rfl
theorem txt4 {n : Int} (h : 0 ≤ n ∧ n < 10000) : txt n 4 = txt (n / 100) 2 ++ txt (n % 100) 2 := by
 rw [txt2 (n := n / 100) (by omega), txt2 (n := n % 100) (by omega)]
 unfold txt wide
 rw [if_neg (by omega), if_neg (by omega)]
 have e3 : n / 100 / 10 = n / 1000 := by omega
 by_cases h1 : n < 10
 ·rw [digs_small (by omega), show ((n.toNat : Nat) : Int) = n by omega, show n / 100 / 10 = 0 by omega, show n / 100 % 10 = 0 by omega, show n % 100 / 10 = 0 by omega, show n % 100 % 10 = n by omega]
  rfl
 ·rw [digs_big (by omega)]
  by_cases h2 : n < 100
  ·rw [digs_small (by omega), show ((n.toNat / 10 : Nat) : Int) = n % 100 / 10 by omega, show ((n.toNat % 10 : Nat) : Int) = n % 100 % 10 by omega, show n / 100 / 10 = 0 by omega, show n / 100 % 10 = 0 by omega]
   rfl
  ·rw [digs_big (by omega)]
   by_cases h3 : n < 1000
   ·rw [digs_small (by omega), show ((n.toNat / 10 / 10 : Nat) : Int) = n / 100 % 10 by omega, show ((n.toNat / 10 % 10 : Nat) : Int) = n % 100 / 10 by omega, show ((n.toNat % 10 : Nat) : Int) = n % 100 % 10 by omega, show n / 100 / 10 = 0 by omega]
    rfl
   ·rw [digs_big (by omega), digs_small (by omega), show ((n.toNat / 10 / 10 / 10 : Nat) : Int) = n / 100 / 10 by omega, show ((n.toNat / 10 / 10 % 10 : Nat) : Int) = n / 100 % 10 by omega, show ((n.toNat / 10 % 10 : Nat) : Int) = n % 100 / 10 by omega, show ((n.toNat % 10 : Nat) : Int) = n % 100 % 10 by omega]
    rfl
theorem dig_ok {c : Int} (h : 0 ≤ c ∧ c ≤ 9) : isDig (48 + c) = true := by rw [isDig_iff]; omega
theorem two_dig {n : Int} (h : 0 ≤ n ∧ n < 100) : (txt n 2).all isDig = true ∧ val 0 (txt n 2) = n ∧ (txt n 2).length = 2 := by
 rw [txt2 h]
 refine ⟨?_, ?_, rfl⟩
 ·rw [List.all_cons, List.all_cons, List.all_nil, dig_ok (by omega), dig_ok (by omega)]; rfl
 ·simp only [val]
  omega
theorem four_dig {n : Int} (h : 0 ≤ n ∧ n < 10000) : (txt n 4).all isDig = true ∧ val 0 (txt n 4) = n ∧ (txt n 4).length = 4 := by
 rw [txt4 h, txt2 (n := n / 100) (by omega), txt2 (n := n % 100) (by omega)]
 refine ⟨?_, ?_, rfl⟩
 ·simp only [List.cons_append, List.nil_append, List.all_cons, List.all_nil]
  rw [dig_ok (by omega), dig_ok (by omega), dig_ok (by omega), dig_ok (by omega)]; rfl
 ·simp only [List.cons_append, List.nil_append, val]
  omega
def nums : List Int → List Int → Option (List Int)
 | [], l => if l = [] then some [] else none
 | k :: ks, l => if (l.length : Int) < k then none else if (l.take k.toNat).all isDig = true then (nums ks (l.drop k.toNat)).map (val 0 (l.take k.toNat) :: ·) else none
theorem nums_nil {l v : List Int} (h : nums [] l = some v) : v = [] ∧ l = [] := by
 unfold nums at h
 split at h
 ·rename_i e; exact ⟨by injection h with h; exact h.symm, e⟩
 ·cases h
theorem nums_cons {k : Int} {ks l v : List Int} (h : nums (k :: ks) l = some v) : ∃ v', v = val 0 (l.take k.toNat) :: v' ∧ ¬ (l.length : Int) < k ∧ (l.take k.toNat).all isDig = true ∧ nums ks (l.drop k.toNat) = some v' := by
 rw [nums] at h
 split at h
 ·cases h
 ·rename_i h1
  split at h
  ·rename_i h2
   obtain ⟨v', h3, h4⟩ := Option.map_eq_some_iff.1 h
   exact ⟨v', h4.symm, h1, h2, h3⟩
  ·cases h
theorem nums_put {k : Int} {ks a r : List Int} (hk : 0 ≤ k) (hl : (a.length : Int) = k) (hd : a.all isDig = true) : nums (k :: ks) (a ++ r) = (nums ks r).map (val 0 a :: ·) := by
 have e : k.toNat = a.length := by omega
 rw [nums, e, List.take_left, List.drop_left, if_neg (by rw [List.length_append]; omega), if_pos hd]
theorem val_in {l : List Int} {k : Int} (hk : ¬ (l.length : Int) < k) (h : (l.take k.toNat).all isDig = true) : 0 ≤ val 0 (l.take k.toNat) ∧ val 0 (l.take k.toNat) < (10 : Int) ^ k.toNat := by
 have := val_range (l.take k.toNat) 0 0 h (by omega) (by decide)
 rw [Nat.zero_add, List.length_take, Nat.min_eq_left (by omega)] at this
 exact this
theorem rd_rdOf (l : List Int) (i : Int) : rd l i = rdOf 0 l i := rfl
theorem numbers_L0 (xs : List Int) (hx : ∀ n ∈ xs, 1 ≤ n ∧ n ≤ 18) (hl : xs.length ≤ 100) : ∀ (k : Nat) (i : Int) (acc : List Int) (s : ByteArray), i + k = xs.length → 0 ≤ i → (acc.length : Int) ≤ i →
  (∀ v, nums (xs.drop i.toNat) (bytesOf s) = some v → value_numbers.L0 s acc xs (xs.length : Int) i = some (acc ++ v, true)) ∧ (nums (xs.drop i.toNat) (bytesOf s) = none → ∃ l, value_numbers.L0 s acc xs (xs.length : Int) i = some (l, false)) := by
 intro k
 induction k with
 | zero =>
  intro i acc s h1 h2 h3
  rw [drop_nil_ (by omega), value_numbers.L0_eq, if_neg (by omega)]
  have e0 : ([] : List UInt8) = (⟨#[]⟩ : ByteArray).toList := by rw [ByteArray.toList_eq]
  have e1 : s.toList = ([] : List UInt8) ↔ bytesOf s = [] := by
   rw [e0, toList_iff]
   constructor
   ·intro h; rw [h]; rfl
   ·intro h; exact bytes_inj (by rw [h]; rfl)
  unfold nums
  by_cases h4 : bytesOf s = []
  ·rw [if_pos h4]
   refine ⟨fun v hv => ?_, fun h => by cases h⟩
   injection hv with hv
   subst hv
   rw [List.append_nil, e1.2 h4]
   rfl
  ·rw [if_neg h4]
   refine ⟨fun v hv => (by cases hv), fun _ => ⟨acc, ?_⟩⟩
   rw [beq_eq_false_iff_ne.2 (fun h => h4 (e1.1 h))]
 | succ k ih =>
  intro i acc s h1 h2 h3
  have hi : i < (xs.length : Int) := by omega
  have hm := hx _ (rdOf_mem 0 h2 hi)
  have hz := size_len s
  rw [drop_cons_ 0 h2 hi, ← rd_rdOf, value_numbers.L0_eq, if_pos hi, if_pos h2, if_pos hi]
  rw [← rd_rdOf] at hm
  generalize rd xs i = x at *
  rw [nums]
  by_cases h4 : (s.size : Int) < x
  ·rw [if_pos h4, if_pos (by omega)]
   exact ⟨fun v hv => (by cases hv), fun _ => ⟨[], rfl⟩⟩
  ·rw [if_neg h4, if_neg (show ¬ ((bytesOf s).length : Int) < x by omega), if_pos (show 0 ≤ x by omega), if_pos (show x ≤ (s.size : Int) by omega), num_Parse_eq, bind_some_, bytes_extract, List.drop_zero]
   have hlen : ((bytesOf s).take x.toNat).length = x.toNat := by rw [List.length_take]; omega
   unfold parsS
   rw [hlen]
   by_cases h5 : ((bytesOf s).take x.toNat).all isDig = true
   ·rw [if_pos (show 1 ≤ x.toNat ∧ x.toNat ≤ 18 ∧ ((bytesOf s).take x.toNat).all isDig = true from ⟨by omega, by omega, h5⟩), if_pos rfl, if_pos h5, if_pos (show acc.length < 17592186044416 by omega), wrap64_id (by omega) (by omega)]
    obtain ⟨q0, q1⟩ := ih (i + 1) (acc ++ [val 0 ((bytesOf s).take x.toNat)]) (s.extract x.toNat s.size) (by omega) (by omega) (by rw [List.length_append, List.length_singleton]; omega)
    rw [extract_all] at q0 q1
    refine ⟨fun v hv => ?_, fun hv => q1 (Option.map_eq_none_iff.1 hv)⟩
    obtain ⟨v', h6, h7⟩ := Option.map_eq_some_iff.1 hv
    rw [q0 v' h6, ← h7, List.append_assoc]
    rfl
   ·rw [if_neg (show ¬ (1 ≤ x.toNat ∧ x.toNat ≤ 18 ∧ ((bytesOf s).take x.toNat).all isDig = true) from fun h => h5 h.2.2), if_neg (show ¬ ((0 : Int), false).2 = true by simp), if_neg h5]
    exact ⟨fun v hv => (by cases hv), fun _ => ⟨[], rfl⟩⟩
theorem numbers_eq (s : ByteArray) (xs : List Int) (hx : ∀ n ∈ xs, 1 ≤ n ∧ n ≤ 18) (hl : xs.length ≤ 100) :
  (∀ v, nums xs (bytesOf s) = some v → value_numbers.F s xs = some (v, true)) ∧ (nums xs (bytesOf s) = none → ∃ l, value_numbers.F s xs = some (l, false)) := by
 have := numbers_L0 xs hx hl xs.length 0 [] s (by omega) (by omega) (by simp)
 rw [value_numbers.F_eq]
 exact this
def cutz (l : List Int) : List Int × Bool := if l.getLast? = some 90 then (l.dropLast, true) else (l, false)
theorem cutz_at (r : List Int) : cutz (r ++ [90]) = (r, true) := by
 unfold cutz
 rw [if_pos (by simp), List.dropLast_concat]
theorem CutZ_eq (s : ByteArray) (hs : s.size ≤ 9223372036854775807) : strings_CutSuffix.f s (⟨#[90]⟩ : ByteArray) = some (strOfNums (cutz (bytesOf s)).1, (cutz (bytesOf s)).2) := by
 unfold strings_CutSuffix.f stringslite_CutSuffix.f stringslite_HasSuffix.f
 have hz := size_len s
 have h1 : ((⟨#[90]⟩ : ByteArray).size : Int) = 1 := rfl
 rw [h1]
 rcases List.eq_nil_or_concat (bytesOf s) with h | ⟨r, c, h⟩
 ·rw [h] at hz
  have e : s = strOfNums [] := by rw [← strOf_bytes s, h]
  rw [if_neg (by rw [hz]; simp), bind_some_, if_neg (by simp), bind_some_, h]
  unfold cutz
  rw [if_neg (by simp), ← e]
 ·rw [List.concat_eq_append] at h
  rw [h, List.length_append, List.length_singleton] at hz
  rw [if_pos (by omega), wrap64_id (by omega) (by omega), if_pos (by omega), if_pos (by omega), bind_some_]
  have e1 : s.extract ((s.size : Int) - 1).toNat s.size = strOfNums [c] := by
   apply bytes_inj
   rw [extract_all, h, show ((s.size : Int) - 1).toNat = r.length by omega, List.drop_left, bytes_strOf (Bytes.right (l := r) (by rw [← h]; exact bytes_of s))]
  have e2 : s.extract 0 ((s.size : Int) - 1).toNat = strOfNums r := by
   apply bytes_inj
   rw [bytes_extract, h, show ((s.size : Int) - 1).toNat = r.length by omega, List.take_left, List.drop_zero, bytes_strOf (Bytes.left (m := [c]) (by rw [← h]; exact bytes_of s))]
  have e3 : (⟨#[90]⟩ : ByteArray) = strOfNums [90] := rfl
  rw [e1, e3, e2]
  by_cases hc : c = 90
  ·subst hc
   rw [if_pos (by simp), if_pos (by omega), if_pos (by omega), bind_some_, h, cutz_at]
  ·have hb : ((strOfNums [c]).toList == (strOfNums [90]).toList) = false := by
    rw [beq_eq_false_iff_ne]
    intro he
    have := strOf_inj (Bytes.right (l := r) (by rw [← h]; exact bytes_of s)) (Bytes.cons (by omega) (by omega) Bytes.nil) (toList_iff.1 he)
    injection this with h9
    exact hc h9
   rw [hb, if_neg (by simp), bind_some_, h]
   unfold cutz
   rw [if_neg (by simp [hc])]
   show some (s, false) = some (strOfNums (r ++ [c]), false)
   rw [← h, strOf_bytes]
def okT (y m d h i s : Int) : Prop := 1 ≤ y ∧ Dt y m d ∧ h < 24 ∧ i < 60 ∧ s < 60
instance (y m d h i s : Int) : Decidable (okT y m d h i s) := inferInstanceAs (Decidable (_ ∧ _))
def ptV (u : Bool) : Option (List Int) → Option (Int × Bool)
 | some [y, m, d, h, i, s] => if okT y m d h i s then some (dn y m d * 86400 + h * 3600 + i * 60 + s, u) else none
 | _ => none
def ptB (c : List Int) (u : Bool) : Option (Int × Bool) := if c.length = 15 ∧ c[8]? = some 84 then ptV u (nums [4, 2, 2, 2, 2, 2] (c.take 8 ++ c.drop 9)) else none
def ptS (l : List Int) : Option (Int × Bool) := ptB (cutz l).1 (cutz l).2
def encT : Option (Int × Bool) → Int × Bool × Int
 | some (t, u) => (t, u, 0)
 | none => (0, false, 19)
theorem six_in {l v : List Int} (h : nums [4, 2, 2, 2, 2, 2] l = some v) : ∃ y m d h i s, v = [y, m, d, h, i, s] ∧ 0 ≤ y ∧ y < 10000 ∧ 0 ≤ m ∧ m < 100 ∧ 0 ≤ d ∧ d < 100 ∧ 0 ≤ h ∧ h < 100 ∧ 0 ≤ i ∧ i < 100 ∧ 0 ≤ s ∧ s < 100 := by
 obtain ⟨v1, rfl, z1, a1, h⟩ := nums_cons h
 obtain ⟨v2, rfl, z2, a2, h⟩ := nums_cons h
 obtain ⟨v3, rfl, z3, a3, h⟩ := nums_cons h
 obtain ⟨v4, rfl, z4, a4, h⟩ := nums_cons h
 obtain ⟨v5, rfl, z5, a5, h⟩ := nums_cons h
 obtain ⟨v6, rfl, z6, a6, h⟩ := nums_cons h
 obtain ⟨rfl, _⟩ := nums_nil h
 have b1 := val_in z1 a1
 have b2 := val_in z2 a2
 have b3 := val_in z3 a3
 have b4 := val_in z4 a4
 have b5 := val_in z5 a5
 have b6 := val_in z6 a6
 have p4 : (10 : Int) ^ (4 : Int).toNat = 10000 := by decide
 have p2 : (10 : Int) ^ (2 : Int).toNat = 100 := by decide
 rw [p4] at b1
 rw [p2] at b2 b3 b4 b5 b6
 exact ⟨_, _, _, _, _, _, rfl, b1.1, b1.2, b2.1, b2.2, b3.1, b3.2, b4.1, b4.2, b5.1, b5.2, b6.1, b6.2⟩
theorem dn_small {y m d : Int} (h : Dt y m d) : -719528 ≤ dn y m d ∧ dn y m d < 2933263 := dn_range h
theorem time_J1 (u : Bool) (y m d h i s : Int) (hb : 0 ≤ y ∧ y < 10000 ∧ 0 ≤ m ∧ m < 100 ∧ 0 ≤ d ∧ d < 100 ∧ 0 ≤ h ∧ h < 100 ∧ 0 ≤ i ∧ i < 100 ∧ 0 ≤ s ∧ s < 100) :
  value_ParseTime.J1 u [y, m, d, h, i, s] false = some (encT (if Dt y m d then some (dn y m d * 86400 + h * 3600 + i * 60 + s, u) else none)) := by
 rw [value_ParseTime.J1_eq, if_neg (by simp), if_pos (by simp), if_pos (by simp), if_pos (by simp)]
 show (civil_Number.F y m d).bind _ = _
 rw [Number_eq y m d (by omega), bind_some_]
 by_cases h1 : Dt y m d
 ·have := dn_small h1
  rw [if_pos h1, if_pos rfl, if_pos (by simp), if_pos (by simp), if_pos (by simp), if_pos h1]
  show some (wrap64 (wrap64 (wrap64 (wrap64 (dn y m d * 86400) + wrap64 (h * 3600)) + wrap64 (i * 60)) + s), u, (0 : Int)) = _
  rw [wrap64_id (n := dn y m d * 86400) (by omega) (by omega), wrap64_id (n := h * 3600) (by omega) (by omega), wrap64_id (n := i * 60) (by omega) (by omega), wrap64_id (n := dn y m d * 86400 + h * 3600) (by omega) (by omega), wrap64_id (n := dn y m d * 86400 + h * 3600 + i * 60) (by omega) (by omega), wrap64_id (by omega) (by omega)]
  rfl
 ·rw [if_neg h1, if_neg (by decide), if_neg h1]
  rfl
theorem time_J1t (u : Bool) (l : List Int) : value_ParseTime.J1 u l true = some (0, false, 19) := by rw [value_ParseTime.J1_eq, if_pos rfl]
theorem time_J0 (c : List Int) (hc : Bytes c) (u : Bool) (hl : c.length = 15) : value_ParseTime.J0 (strOfNums c) u false = some (encT (ptV u (nums [4, 2, 2, 2, 2, 2] (c.take 8 ++ c.drop 9)))) := by
 have hs : ((strOfNums c).size : Int) = 15 := by rw [size_strOf]; omega
 have hs' : (strOfNums c).size = 15 := by omega
 have e1 : bytesOf ((strOfNums c).extract 0 8 ++ (strOfNums c).extract 9 (strOfNums c).size) = c.take 8 ++ c.drop 9 := by rw [bytes_append, bytes_extract, extract_all, bytes_strOf hc, List.drop_zero]
 have hz : ((strOfNums c).extract 0 8).size + ((strOfNums c).extract 9 (strOfNums c).size).size ≤ 9223372036854775807 := by rw [ByteArray.size_extract, ByteArray.size_extract, hs']; omega
 obtain ⟨q0, q1⟩ := numbers_eq ((strOfNums c).extract 0 8 ++ (strOfNums c).extract 9 (strOfNums c).size) [4, 2, 2, 2, 2, 2] (by simp) (by simp)
 rw [e1] at q0 q1
 rw [value_ParseTime.J0_eq, if_neg (by simp), if_pos (by omega), if_pos (by omega), if_pos (by omega), if_pos hz]
 cases hn : nums [4, 2, 2, 2, 2, 2] (c.take 8 ++ c.drop 9) with
 | none =>
  obtain ⟨l, hl⟩ := q1 hn
  rw [hl, bind_some_, if_neg (by simp), time_J1t]
  rfl
 | some v =>
  rw [q0 v hn, bind_some_]
  obtain ⟨y, m, d, h, i, s, rfl, hb⟩ := six_in hn
  dsimp only
  rw [if_pos rfl, if_pos (by simp)]
  show (if y < 1 then _ else _) = _
  unfold ptV
  dsimp only
  by_cases h1 : y < 1
  ·rw [if_pos h1, time_J1t, if_neg (fun h' : okT y m d h i s => by have := h'.1; omega)]; rfl
  ·rw [if_neg h1, if_pos (by simp)]
   show (if h ≥ 24 then _ else _) = _
   by_cases h2 : h ≥ 24
   ·rw [if_pos h2, time_J1t, if_neg (fun h' : okT y m d h i s => by have := h'.2.2.1; omega)]; rfl
   ·rw [if_neg h2, if_pos (by simp)]
    show (if i ≥ 60 then _ else _) = _
    by_cases h3 : i ≥ 60
    ·rw [if_pos h3, time_J1t, if_neg (fun h' : okT y m d h i s => by have := h'.2.2.2.1; omega)]; rfl
    ·rw [if_neg h3, if_pos (by simp)]
     show value_ParseTime.J1 u [y, m, d, h, i, s] (decide (s ≥ 60)) = _
     by_cases h4 : s ≥ 60
     ·rw [decide_eq_true h4, time_J1t, if_neg (fun h' : okT y m d h i s => by have := h'.2.2.2.2; omega)]; rfl
     ·rw [decide_eq_false h4, time_J1 u y m d h i s hb]
      by_cases h5 : Dt y m d
      ·rw [if_pos h5, if_pos (show okT y m d h i s from ⟨by omega, h5, by omega, by omega, by omega⟩)]
      ·rw [if_neg h5, if_neg (fun h' : okT y m d h i s => h5 h'.2.1)]
end Go.Proofs.YtjanombhdnoemaaGreatDoor.Base
