-- A text of the kit's tools for this claim, its remarks left out.
import Derived.Test.YtjanombhdnoemaaGreatDoorStr
import Derived.Lib.ItoaNum
import Derived.Lib.Repeat
import Derived.Test.YtjanombhdnoemaaGreatDoorWAll
namespace Go.Proofs.YtjanombhdnoemaaGreatDoor.Base
open Go.RowKit Go.Proofs.YtjanombhdnoemaaGreatDoorW.PrintWords Go.Proofs.YtjanombhdnoemaaGreatDoorW.PrintLast Go.Proofs.YtjanombhdnoemaaGreatDoorW.PrintMore
set_option linter.unusedVariables false
set_option linter.unusedSimpArgs false
theorem wf64 {a : Int} (h : (Lit.int .i64 a).wf = true) : -9223372036854775808 ≤ a ∧ a ≤ 9223372036854775807 := by simpa [Lit.wf, IntKind.min, IntKind.max, IntKind.signed, IntKind.bits] using h
def Bd (a : Int) : Prop := -4611686018427387904 ≤ a ∧ a ≤ 4611686018427387904
instance (a : Int) : Decidable (Bd a) := inferInstanceAs (Decidable (_ ∧ _))
theorem tdiv_pos {a b : Int} (hb : 1 ≤ b) : (if Int.tmod a b < 0 then (Int.tdiv a b - 1, Int.tmod a b + b) else (Int.tdiv a b, Int.tmod a b)) = (a / b, a % b) := by
 have e1 : b * Int.tdiv a b + Int.tmod a b = a := Int.mul_tdiv_add_tmod a b
 have h2 : Int.tmod a b < b := Int.tmod_lt_of_pos a (by omega)
 have h3 : -b < Int.tmod a b := by
  have := Int.tmod_lt_of_pos (-a) (b := b) (by omega)
  rw [Int.neg_tmod] at this
  omega
 have key : ∀ q r : Int, b * q + r = a → 0 ≤ r → r < b → q = a / b ∧ r = a % b := by
  intro q r h h0 h1
  have hq : a / b = q := by
   rw [← h, Int.add_comm, Int.add_mul_ediv_left _ _ (by omega), Int.ediv_eq_zero_of_lt h0 h1]; omega
  refine ⟨hq.symm, ?_⟩
  have := Int.mul_ediv_add_emod a b
  rw [hq] at this
  omega
 split
 ·rename_i h
  have := key (Int.tdiv a b - 1) (Int.tmod a b + b) (by rw [Int.mul_sub]; omega) (by omega) (by omega)
  rw [this.1, this.2]
 ·rename_i h
  have := key (Int.tdiv a b) (Int.tmod a b) e1 (by omega) (by omega)
  rw [← this.1, ← this.2]
theorem ediv_bd {a b : Int} (hb : 1 ≤ b) : (0 ≤ a → 0 ≤ a / b ∧ a / b ≤ a) ∧ (a < 0 → a ≤ a / b ∧ a / b < 0) ∧ 0 ≤ a % b ∧ a % b < b := by
 refine ⟨fun h => ⟨Int.ediv_nonneg h (by omega), ?_⟩, fun h => ⟨?_, Int.ediv_neg_of_neg_of_pos h (by omega)⟩, Int.emod_nonneg _ (by omega), Int.emod_lt_of_pos _ (by omega)⟩
 ·exact Int.ediv_le_self _ h
 ·rw [Int.le_ediv_iff_mul_le (by omega)]
  have : a * b ≤ a * 1 := Int.mul_le_mul_of_nonpos_left (by omega) (by omega)
  omega
theorem tdiv_wrap {a b : Int} (hb : 1 ≤ b) (ha : -9223372036854775808 ≤ a ∧ a ≤ 9223372036854775807) (hb2 : b ≤ 9223372036854775807) :
  (if Int.tmod a b < 0 then (wrap64 (wrap64 (Int.tdiv a b) - 1), wrap64 (Int.tmod a b + b)) else (wrap64 (Int.tdiv a b), Int.tmod a b)) = (a / b, a % b) := by
 have h := tdiv_pos (a := a) hb
 obtain ⟨h1, h2, h3, h4⟩ := ediv_bd (a := a) hb
 split at h
 ·rename_i hn
  rw [if_pos hn]
  simp only [Prod.mk.injEq] at h
  have ha0 : a < 0 := by
   rcases Int.lt_or_le a 0 with h' | h'
   ·exact h'
   ·have := Int.tmod_nonneg b h'
    omega
  have h2' := h2 ha0
  have e : wrap64 (Int.tdiv a b) = Int.tdiv a b := wrap64_id (by omega) (by omega)
  have h5 : -9223372036854775808 ≤ a / b ∧ a / b ≤ 9223372036854775807 := by
   by_cases h0 : 0 ≤ a
   ·have := h1 h0; omega
   ·have := h2 (by omega); omega
  rw [e, h.1, h.2, wrap64_id (n := a / b) h5.1 h5.2, wrap64_id (n := a % b) (by omega) (by omega)]
 ·rename_i hn
  rw [if_neg hn]
  simp only [Prod.mk.injEq] at h
  have h5 : -9223372036854775808 ≤ a / b ∧ a / b ≤ 9223372036854775807 := by
   by_cases h0 : 0 ≤ a
   ·have := h1 h0; omega
   ·have := h2 (by omega); omega
  rw [h.1, h.2, wrap64_id (n := a / b) h5.1 h5.2]
def isDig (c : Int) : Bool := decide (48 ≤ c) && decide (c ≤ 57)
theorem isDig_iff (c : Int) : isDig c = true ↔ 48 ≤ c ∧ c ≤ 57 := by unfold isDig; simp
def val (a : Int) : List Int → Int
 | [] => a
 | c :: l => val (10 * a + (c - 48)) l
theorem val_append (a : Int) : ∀ (l m : List Int), val a (l ++ m) = val (val a l) m := by
 intro l
 induction l generalizing a with
 | nil => intro m; rfl
 | cons c l ih => intro m; exact ih _ m
theorem val_range : ∀ (l : List Int) (a : Int) (i : Nat), (l.all isDig = true) → 0 ≤ a → a < (10 : Int) ^ i → 0 ≤ val a l ∧ val a l < (10 : Int) ^ (i + l.length) := by
 intro l
 induction l with
 | nil => intro a i _ h0 h1; exact ⟨h0, h1⟩
 | cons c l ih =>
  intro a i hd h0 h1
  rw [List.all_cons, Bool.and_eq_true, isDig_iff] at hd
  have := ih (10 * a + (c - 48)) (i + 1) hd.2 (by omega) (by rw [Int.pow_succ]; omega)
  rw [List.length_cons, show i + (l.length + 1) = i + 1 + l.length by omega]
  exact this
def digs (n : Nat) : List Int := if h : n < 10 then [48 + (n : Int)] else digs (n / 10) ++ [48 + ((n % 10 : Nat) : Int)]
termination_by n
decreasing_by omega
theorem digs_small {n : Nat} (h : n < 10) : digs n = [48 + (n : Int)] := by rw [digs, dif_pos h]
theorem digs_big {n : Nat} (h : ¬ n < 10) : digs n = digs (n / 10) ++ [48 + ((n % 10 : Nat) : Int)] := by rw [digs, dif_neg h]
theorem decDigits_eq' (n : Nat) : (Lib.decDigits n).map (fun b => (b.toNat : Int)) = digs n := by
 induction n using Nat.strongRecOn with
 | _ n ih =>
  by_cases h : n < 10
  ·rw [Lib.decDigits, dif_pos h, digs_small h]
   simp only [List.map_cons, List.map_nil]
   rw [UInt8.toNat_ofNat']
   congr 1
   omega
  ·rw [Lib.decDigits, dif_neg h, digs_big h, List.map_append, ih (n / 10) (by omega)]
   simp only [List.map_cons, List.map_nil]
   rw [UInt8.toNat_ofNat']
   congr 2
   omega
theorem digs_dig (n : Nat) : (digs n).all isDig = true := by
 induction n using Nat.strongRecOn with
 | _ n ih =>
  by_cases h : n < 10
  ·rw [digs_small h, List.all_cons, List.all_nil, Bool.and_true, isDig_iff]; omega
  ·rw [digs_big h, List.all_append, ih (n / 10) (by omega), List.all_cons, List.all_nil, Bool.and_true, Bool.true_and, isDig_iff]; omega
theorem digs_val (n : Nat) : val 0 (digs n) = n := by
 induction n using Nat.strongRecOn with
 | _ n ih =>
  by_cases h : n < 10
  ·rw [digs_small h]; simp only [val]; omega
  ·rw [digs_big h, val_append, ih (n / 10) (by omega)]; simp only [val]; omega
theorem digs_pos (n : Nat) : 1 ≤ (digs n).length := by
 by_cases h : n < 10
 ·rw [digs_small h]; simp
 ·rw [digs_big h]; simp
theorem digs_len (n : Nat) : ∀ k, 1 ≤ k → n < 10 ^ k → (digs n).length ≤ k := by
 induction n using Nat.strongRecOn with
 | _ n ih =>
  intro k hk hn
  by_cases h : n < 10
  ·rw [digs_small h]; simpa using hk
  ·rw [digs_big h, List.length_append, List.length_singleton]
   obtain ⟨k, rfl⟩ : ∃ j, k = j + 2 := ⟨k - 2, by
    rcases k with _ | _ | k
    ·omega
    ·omega
    ·omega⟩
   have := ih (n / 10) (by omega) (k + 1) (by omega) (by rw [Nat.pow_succ] at hn; omega)
   omega
theorem digs_bytes (n : Nat) : Bytes (digs n) := fun x hx => by
 have := List.all_eq_true.1 (digs_dig n) x hx
 rw [isDig_iff] at this
 omega
def wide (d : Int) : Nat := if d < 0 ∨ d > 20 then 0 else d.toNat
def txt (n d : Int) : List Int := if n < 0 then [] else List.replicate (wide d - (digs n.toNat).length) 48 ++ digs n.toNat
theorem txt_bytes (n d : Int) : Bytes (txt n d) := by
 unfold txt
 split
 ·exact Bytes.nil
 ·refine Bytes.app (fun x hx => ?_) (digs_bytes _)
  obtain ⟨_, rfl⟩ := List.mem_replicate.1 hx
  omega
theorem repeat_zero : ∀ n, (Lib.repeatL [48] n).map (fun b : UInt8 => (b.toNat : Int)) = List.replicate n 48 := by
 intro n
 induction n with
 | zero => rfl
 | succ n ih => rw [Lib.repeatL, List.map_append, ih, List.replicate_succ]; rfl
theorem mk_bytes (l : List UInt8) : bytesOf ⟨l.toArray⟩ = l.map (fun b => (b.toNat : Int)) := rfl
theorem itoa_eq (n : Int) (h : 0 ≤ n) : (⟨(Lib.itoa n).toArray⟩ : ByteArray) = strOfNums (digs n.toNat) := by
 apply bytes_inj
 rw [bytes_strOf (digs_bytes _), mk_bytes]
 unfold Lib.itoa
 rw [if_neg (by omega), decDigits_eq']
theorem rep_eq (n : Nat) : (⟨(Lib.repeatL ((⟨#[48]⟩ : ByteArray).data.toList) n).toArray⟩ : ByteArray) = strOfNums (List.replicate n 48) := by
 apply bytes_inj
 rw [bytes_strOf (fun x hx => by obtain ⟨_, rfl⟩ := List.mem_replicate.1 hx; omega), mk_bytes]
 exact repeat_zero n
theorem digs_len20 {n : Int} (h1 : n ≤ 9223372036854775807) : (digs n.toNat).length ≤ 20 := digs_len _ 20 (by omega) (by
 have : (10 : Nat) ^ 20 = 100000000000000000000 := by decide
 omega)
end Go.Proofs.YtjanombhdnoemaaGreatDoor.Base
