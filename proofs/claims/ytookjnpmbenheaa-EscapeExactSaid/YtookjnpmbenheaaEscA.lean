/- What escape.Put of the program tells, as a list of bytes. No condition. -/
import Derived.Test.YtookjnpmbenheaaStr
import Derived.Test.YtookjnpmbenheaaEEscx1
import Derived.Test.YtookjnpmbenheaaPEscx1
namespace Go.Proofs.Ytookjnpmbenheaa.PEsc
open Go.RowKit Go.Proofs.YtookjnpmbenheaaW.PrintWords Go.Proofs.YtookjnpmbenheaaW.PrintLast Go.Proofs.Ytookjnpmbenheaa.Base

def clear_ (c : Int) : Prop := (32 ≤ c ∧ c ≠ 127) ∨ c = 9
instance (c : Int) : Decidable (clear_ c) := by unfold clear_; exact inferInstance
def sign (c : Int) : Prop := c = 92 ∨ c = 59 ∨ c = 44
instance (c : Int) : Decidable (sign c) := by unfold sign; exact inferInstance
/-- What is put. -/
def put : List Int → Option (List Int)
  | [] => some []
  | c :: t => if c = 10 then (put t).map ([92, 110] ++ ·) else if clear_ c then (if sign c then (put t).map ([92, c] ++ ·) else (put t).map ([c] ++ ·)) else none
def told (acc : List Int) : Option (List Int) → ByteArray × Int
  | some r => (strOfNums (acc ++ r), 0)
  | none => (⟨#[]⟩, 3)
theorem told_none (acc : List Int) : told acc none = ((⟨#[]⟩ : ByteArray), 3) := rfl
theorem told_some (acc r : List Int) : told acc (some r) = (strOfNums (acc ++ r), 0) := rfl
theorem told_map (acc a : List Int) (o : Option (List Int)) : told acc (o.map (a ++ ·)) = told (acc ++ a) o := by
  cases o <;> simp [told]
theorem plain_f (c : Int) : escape_plain.f c = some (decide (clear_ c)) := by
  unfold escape_plain.f
  by_cases h : c ≥ 32
  · rw [if_pos h]
    by_cases h2 : c = 127
    · have e : ¬ clear_ c := by unfold clear_; omega
      rw [if_pos h2, decide_eq_false e, h2]
      rfl
    · have e : clear_ c := by unfold clear_; omega
      rw [if_neg h2, decide_eq_true e]
  · have e : clear_ c ↔ c = 9 := by unfold clear_; omega
    rw [if_neg h]
    congr 1
    rw [Bool.eq_iff_iff, beq_iff_eq, decide_eq_true_iff, e]
theorem mark_f (c : Int) (h0 : 0 ≤ c) (h1 : c ≤ 255) : ∃ v, strings_IndexByte.f (⟨#[92, 59, 44]⟩ : ByteArray) c = some v ∧ (v ≥ 0 ↔ sign c) := by
  refine ⟨_, rfl, ?_⟩
  have h := index_mem [92, 59, 44] c h0 h1
  unfold sign
  have e : c ∈ List.map (fun b : UInt8 => (b.toNat : Int)) [92, 59, 44] ↔ c = 92 ∨ c = 59 ∨ c = 44 := by
    simp
  rw [e] at h
  exact h
theorem put_L0 (s : ByteArray) (d : Nat) : ∀ (i : Int) (acc : List Int), 0 ≤ i → i + d = (s.size : Int) → acc.length + 2 * d < 140737488355328 → s.size < 140737488355328 →
    escape_Put.L0 s acc (s.size : Int) i = some (told acc (put (rest s i))) := by
  induction d with
  | zero =>
    intro i acc h0 h1 h2 h3
    rw [escape_Put.L0_eq, if_neg (by omega), rest_nil (by omega)]
    simp [put, told]
  | succ d ih =>
    intro i acc h0 h1 h2 h3
    have hw : wrap64 (i + 1) = i + 1 := wrap64_id (by omega) (by omega)
    rw [escape_Put.L0_eq, if_pos (by omega), if_pos h0, if_pos (by omega), rest_cons h0 (by omega), hw]
    have hr := bt_range s i
    generalize bt s i = c at hr ⊢
    obtain ⟨v, hv, hm⟩ := mark_f c hr.1 hr.2
    by_cases c10 : c = 10
    · rw [if_pos c10]
      simp only [bind_some_]
      rw [if_pos (by simp; omega), ih _ _ (by omega) (by omega) (by simp; omega) h3, put, if_pos c10, told_map]
    · rw [if_neg c10, plain_f]
      simp only [bind_some_]
      by_cases hp : clear_ c
      · rw [if_pos (by simpa using hp), hv]
        simp only [bind_some_]
        by_cases hk : sign c
        · rw [if_pos (hm.2 hk), if_pos (by simp; omega), ih _ _ (by omega) (by omega) (by simp; omega) h3, put, if_neg c10, if_pos hp, if_pos hk, told_map]
        · rw [if_neg (fun h => hk (hm.1 h)), if_pos (by omega), ih _ _ (by omega) (by omega) (by simp; omega) h3, put, if_neg c10, if_pos hp, if_neg hk, told_map]
      · rw [if_neg (by simpa using hp), put, if_neg c10, if_neg hp]
        rfl
theorem put_F (s : ByteArray) (h : s.size ≤ 40000000000000) : escape_Put.F s = some (told [] (put (bytesOf s))) := by
  rw [escape_Put.F_eq, put_L0 s s.size 0 [] (by omega) (by omega) (by simp; omega) (by omega), rest_zero]
theorem put_length : ∀ {l r : List Int}, put l = some r → r.length ≤ 2 * l.length
  | [], r, h => by cases h; simp
  | c :: t, r, h => by
    unfold put at h
    split at h
    · obtain ⟨q, hq, rfl⟩ := Option.map_eq_some_iff.1 h
      have := put_length hq
      simp; omega
    · split at h
      · split at h
        · obtain ⟨q, hq, rfl⟩ := Option.map_eq_some_iff.1 h
          have := put_length hq
          simp; omega
        · obtain ⟨q, hq, rfl⟩ := Option.map_eq_some_iff.1 h
          have := put_length hq
          simp; omega
      · cases h
theorem put_bytes : ∀ {l r : List Int}, Bytes l → put l = some r → Bytes r
  | [], r, _, h => by cases h; exact Bytes.nil
  | c :: t, r, hb, h => by
    have hc := hb.head
    unfold put at h
    split at h
    · obtain ⟨q, hq, rfl⟩ := Option.map_eq_some_iff.1 h
      exact Bytes.app (Bytes.cons (by omega) (by omega) (Bytes.cons (by omega) (by omega) Bytes.nil)) (put_bytes hb.tail hq)
    · split at h
      · split at h
        · obtain ⟨q, hq, rfl⟩ := Option.map_eq_some_iff.1 h
          exact Bytes.app (Bytes.cons (by omega) (by omega) (Bytes.cons hc.1 hc.2 Bytes.nil)) (put_bytes hb.tail hq)
        · obtain ⟨q, hq, rfl⟩ := Option.map_eq_some_iff.1 h
          exact Bytes.app (Bytes.cons hc.1 hc.2 Bytes.nil) (put_bytes hb.tail hq)
      · cases h
theorem put_append (l m : List Int) : put (l ++ m) = (put l).bind fun x => (put m).map (x ++ ·) := by
  induction l with
  | nil => simp [put]
  | cons c t ih =>
    rw [List.cons_append, put, put, ih]
    by_cases h : c = 10
    · rw [if_pos h, if_pos h]
      cases put t <;> cases put m <;> simp
    · rw [if_neg h, if_neg h]
      by_cases hp : clear_ c
      · rw [if_pos hp, if_pos hp]
        by_cases hm : sign c
        · rw [if_pos hm, if_pos hm]
          cases put t <;> cases put m <;> simp
        · rw [if_neg hm, if_neg hm]
          cases put t <;> cases put m <;> simp
      · rw [if_neg hp, if_neg hp]
        rfl
end Go.Proofs.Ytookjnpmbenheaa.PEsc
