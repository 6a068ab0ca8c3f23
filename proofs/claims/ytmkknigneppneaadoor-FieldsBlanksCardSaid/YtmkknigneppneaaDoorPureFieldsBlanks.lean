/- The law FieldsBlanks over numbers and texts: for every list of texts, whole number and text the law's printed function answers true. -/
import Derived.Test.YtmkknigneppneaaDoorFldA
import Derived.Test.YtmkknigneppneaaDoorEFldx3
namespace Go.Proofs.YtmkknigneppneaaDoor.Pure
open Go.RowKit Go.Proofs.YtmkknigneppneaaDoor.PFld Go.Proofs.YtmkknigneppneaaDoor.FldR Go.Proofs.YtmkknigneppneaaDoorW.PrintWords Go.Proofs.YtmkknigneppneaaDoorW.PrintLast Go.Proofs.YtmkknigneppneaaDoorW.PrintMore Go.Proofs.YtmkknigneppneaaDoor.Base
set_option linter.unusedVariables false
set_option linter.unusedSimpArgs false
def bls : List ByteArray := [(⟨#[32]⟩ : ByteArray), (⟨#[9]⟩ : ByteArray), (⟨#[32, 32]⟩ : ByteArray), (⟨#[32, 9, 13, 32]⟩ : ByteArray)]
theorem bls_at (n : Int) : 0 ≤ wrap64 (Int.tmod (IntKind.u64.wrap n) 4) ∧ wrap64 (Int.tmod (IntKind.u64.wrap n) 4) < 4 := by
  have h3 : 0 ≤ IntKind.u64.wrap n := by unfold IntKind.wrap; simp [IntKind.signed, IntKind.bits]; omega
  rw [Int.tmod_eq_emod_of_nonneg h3, wrap64_id (by omega) (by omega)]
  omega
theorem bls_is {j : Int} (h : 0 ≤ j ∧ j < 4) : ∃ b : List Int, rdOf ByteArray.empty bls j = strOfNums b ∧ b ≠ [] ∧ (∀ c ∈ b, Bl c) ∧ b.length ≤ 4 := by
  have hc : j = 0 ∨ j = 1 ∨ j = 2 ∨ j = 3 := by omega
  unfold Bl
  rcases hc with rfl | rfl | rfl | rfl
  · exact ⟨[32], rfl, by simp, by simp, by simp⟩
  · exact ⟨[9], rfl, by simp, by simp, by simp⟩
  · exact ⟨[32, 32], rfl, by simp, by simp, by simp⟩
  · exact ⟨[32, 9, 13, 32], rfl, by simp, by simp, by simp⟩
theorem bl_bytes {b : List Int} (h : ∀ c ∈ b, Bl c) : Bytes b ∧ Ln b := by
  unfold Bl at h
  exact ⟨fun x hx => by have := h x hx; omega, fun x hx => by have := h x hx; omega⟩
theorem Ln.app {a b : List Int} (h : Ln a) (k : Ln b) : Ln (a ++ b) := fun x hx => by
  rcases List.mem_append.1 hx with hx | hx
  · exact h x hx
  · exact k x hx
/-- A line so far: it is read as so many fields. -/
structure Sofar (P : List Int) (fs : List ByteArray) (m : Nat) : Prop where
  b : Bytes P
  n : Ln P
  l : P.length ≤ m
  r : runO P FldR.init = some (fs, [], false, false)
theorem l2_true (l : List ByteArray) (s : ByteArray) (hs : s.size ≤ 100) (P : List Int) (hl : l.length ≤ 20) (h : Sofar P l 300) : ∀ (k : Nat) (i : Int), i + k = (s.size : Int) → 0 ≤ i → (∀ x ∈ (bytesOf s).take i.toNat, x ≠ 0 ∧ x ≠ 10) →
    solsticelaw05_FieldsBlanks.L2 l s (strOfNums P) i = some true := by
  intro k
  induction k with
  | zero =>
    intro i h1 h2 hg
    have hz := size_len s
    rw [List.take_of_length_le (by omega)] at hg
    have hl1 := h.l
    have e1 : runL P FldR.init = (l, [], false, false) := by
      have := runL_app (b := []) h.r
      rw [List.append_nil] at this
      exact this
    have s1 : ((⟨#[35]⟩ : ByteArray)) = strOfNums [35] := rfl
    have s2 : s = strOfNums (bytesOf s) := (strOf_bytes s).symm
    have e2 : runL (P ++ 35 :: bytesOf s) FldR.init = (l, [], false, false) := by rw [runL_app h.r, run_hash]
    have f1 := Split_eq h.b h.n (by omega)
    have f2 := Split_eq (l := P ++ 35 :: bytesOf s) (Bytes.app h.b (Bytes.cons (by omega) (by omega) (bytes_of s))) (Ln.app h.n (fun x hx => by
      rcases List.mem_cons.1 hx with rfl | hx
      · omega
      · exact hg x hx)) (by rw [List.length_append, List.length_cons]; omega)
    rw [e1, if_neg (by simp)] at f1
    rw [e2, if_neg (by simp)] at f2
    have e3 : (endS ((l, [], false, false) : St)).1 = l := rfl
    rw [e3] at f1 f2
    have e4 : (strOfNums P ++ (⟨#[35]⟩ : ByteArray)) ++ s = strOfNums (P ++ 35 :: bytesOf s) := by
      conv => lhs; rw [s2, s1, strOf_append, strOf_append, List.append_assoc]
      rfl
    rw [solsticelaw05_FieldsBlanks.L2_eq, if_neg (by omega), f1, bind_some_, size_strOf, if_pos (by omega), if_pos (by rw [s1, strOf_append, size_strOf, List.length_append, List.length_singleton]; omega), e4, f2, bind_some_]
    dsimp only
    rw [if_pos rfl, if_pos rfl, texts_F l l (by omega), bind_some_, decide_eq_true rfl, if_pos rfl, bind_some_, if_pos rfl, wakes05_, bind_some_]
  | succ k ih =>
    intro i h1 h2 hg
    have hlt : i < (s.size : Int) := by omega
    rw [solsticelaw05_FieldsBlanks.L2_eq, if_pos hlt, if_pos h2]
    by_cases h3 : bt s i = 0
    · rw [if_pos h3]
    · rw [if_neg h3]
      by_cases h4 : bt s i = 10
      · rw [if_pos h4]
      · rw [if_neg h4, wrap64_id (by omega) (by omega)]
        refine ih (i + 1) (by omega) (by omega) ?_
        have := seg_snoc (s := s) (a := 0) (b := i) (by omega) h2 hlt
        unfold seg at this
        rw [show (0 : Int).toNat = 0 from rfl, List.drop_zero, List.drop_zero] at this
        rw [this]
        intro x hx
        rcases List.mem_append.1 hx with hx | hx
        · exact hg x hx
        · rw [List.mem_singleton.1 hx]; exact ⟨h3, h4⟩
theorem l1_true (l : List ByteArray) (n : Int) (s : ByteArray) (P : List Int) (i : Int) (h0 : 0 ≤ i) (h1 : i < (l.length : Int)) (hz : (rdOf ByteArray.empty l i).size ≤ 10) (hP : P.length ≤ 300)
    (go : (∀ c ∈ bytesOf (rdOf ByteArray.empty l i), Wd c) → ∀ b : List Int, b ≠ [] → (∀ c ∈ b, Bl c) → b.length ≤ 4 → solsticelaw05_FieldsBlanks.L0 l n s bls (strOfNums (P ++ (bytesOf (rdOf ByteArray.empty l i) ++ b))) (wrap64 (i + 1)) = some true) :
    ∀ (k : Nat) (j : Int), j + k = ((rdOf ByteArray.empty l i).size : Int) → 0 ≤ j → (∀ x ∈ (bytesOf (rdOf ByteArray.empty l i)).take j.toNat, Wd x) → solsticelaw05_FieldsBlanks.L1 l n s bls (strOfNums P) i j = some true := by
  intro k
  induction k with
  | zero =>
    intro j h2 h3 hg
    have hz' := size_len (rdOf ByteArray.empty l i)
    rw [List.take_of_length_le (by omega)] at hg
    have ha := bls_at (wrap64 (n + i))
    obtain ⟨b, e1, e2, e3, e4⟩ := bls_is ha
    have go := go hg b e2 e3 e4
    rw [solsticelaw05_FieldsBlanks.L1_eq, if_pos h0, if_pos h1, if_neg (by omega), size_strOf, if_pos (by omega), if_pos ha.1, if_pos (show _ < ((bls.length : Nat) : Int) from ha.2), e1]
    generalize rdOf ByteArray.empty l i = w at *
    have s2 : strOfNums P ++ w = strOfNums (P ++ bytesOf w) := by
      conv => lhs; rw [← strOf_bytes w, strOf_append]
    rw [s2, size_strOf, size_strOf, if_pos (by rw [List.length_append, bytesOf_length]; omega), strOf_append, List.append_assoc]
    exact go
  | succ k ih =>
    intro j h2 h3 hg
    have hlt : j < ((rdOf ByteArray.empty l i).size : Int) := by omega
    have hr := bt_range (rdOf ByteArray.empty l i) j
    rw [solsticelaw05_FieldsBlanks.L1_eq, if_pos h0, if_pos h1, if_pos hlt, if_pos h3]
    by_cases k1 : bt (rdOf ByteArray.empty l i) j ≤ 32
    · rw [if_pos k1]
    · rw [if_neg k1]
      by_cases k2 : bt (rdOf ByteArray.empty l i) j = 35
      · rw [if_pos k2]
      · rw [if_neg k2]
        by_cases k3 : bt (rdOf ByteArray.empty l i) j = 34
        · rw [if_pos k3]
        · rw [if_neg k3, wrap64_id (by omega) (by omega)]
          refine ih (j + 1) (by omega) (by omega) ?_
          have := seg_snoc (s := rdOf ByteArray.empty l i) (a := 0) (b := j) (by omega) h3 hlt
          unfold seg at this
          rw [show (0 : Int).toNat = 0 from rfl, List.drop_zero, List.drop_zero] at this
          rw [this]
          intro x hx
          rcases List.mem_append.1 hx with hx | hx
          · exact hg x hx
          · rw [List.mem_singleton.1 hx]; exact ⟨by omega, by omega, k2, k3⟩
theorem l0_true (l : List ByteArray) (n : Int) (s : ByteArray) (hs : s.size ≤ 100) (hl : l.length ≤ 20) : ∀ (k : Nat) (i : Int) (P : List Int), i + k = (l.length : Int) → 0 ≤ i → Sofar P (l.take i.toNat) (4 + 14 * i.toNat) → solsticelaw05_FieldsBlanks.L0 l n s bls (strOfNums P) i = some true := by
  intro k
  induction k with
  | zero =>
    intro i P h1 h2 h
    rw [List.take_of_length_le (by omega)] at h
    rw [solsticelaw05_FieldsBlanks.L0_eq, if_neg (by omega)]
    exact l2_true l s hs P hl ⟨h.b, h.n, by have := h.l; omega, h.r⟩ s.size 0 (by omega) (by omega) (fun x hx => by simp at hx)
  | succ k ih =>
    intro i P h1 h2 h
    have hi : i < (l.length : Int) := by omega
    have hj : solsticelaw05_FieldsBlanks.J2 l n s bls (strOfNums P) i true = some true := by rw [solsticelaw05_FieldsBlanks.J2_eq, if_pos rfl]
    rw [solsticelaw05_FieldsBlanks.L0_eq, if_pos hi, if_pos h2]
    by_cases k1 : ((rdOf ByteArray.empty l i).size : Int) < 1
    · rw [if_pos k1, hj]
    · rw [if_neg k1]
      by_cases k2 : ((rdOf ByteArray.empty l i).size : Int) > 10
      · rw [decide_eq_true k2, hj]
      · rw [decide_eq_false k2, solsticelaw05_FieldsBlanks.J2_eq, if_neg (by simp)]
        refine l1_true l n s P i h2 hi (by omega) (by have := h.l; omega) ?_ (rdOf ByteArray.empty l i).size 0 (by omega) (by omega) (fun x hx => by simp at hx)
        intro hw b b1 b2 b3
        rw [wrap64_id (by omega) (by omega)]
        have hbb := bl_bytes b2
        have hz := size_len (rdOf ByteArray.empty l i)
        have ht : l.take (i + 1).toNat = l.take i.toNat ++ [rdOf ByteArray.empty l i] := by
          have hl' : i.toNat < l.length := by omega
          rw [show (i + 1).toNat = i.toNat + 1 by omega, List.take_succ_eq_append_getElem hl']
          congr 2
          unfold rdOf
          rw [List.getD_eq_getElem?_getD, List.getElem?_eq_getElem hl']
          rfl
        refine ih (i + 1) _ (by omega) (by omega) ⟨Bytes.app h.b (Bytes.app (bytes_of _) hbb.1), Ln.app h.n (Ln.app (fun x hx => by have := hw x hx; unfold Wd at this; omega) hbb.2), ?_, ?_⟩
        · have := h.l
          rw [List.length_append, List.length_append]
          omega
        · have hne : (bytesOf (rdOf ByteArray.empty l i)).isEmpty = false := by
            cases hh : bytesOf (rdOf ByteArray.empty l i) with
            | nil => rw [hh, List.length_nil] at hz; omega
            | cons _ _ => rfl
          rw [runO_app, h.r, bind_some_, runO_app, run_word _ _ _ _ (bytes_of _) (fun c hc => by have := hw c hc; unfold Wd at this; unfold Bl; omega), bind_some_, hne, List.nil_append]
          rw [show (false || !false) = true from rfl, run_ends _ _ b1 b2, strOf_bytes, ht]
theorem FieldsBlanks (l : List ByteArray) (n : Int) (s : ByteArray) (_ : (Lit.int .i64 n).wf = true) (_ : s.size ≤ 140737488351232) : ∃ k, solsticelaw05_FieldsBlanks.f k l n s = some true := by
  suffices h : solsticelaw05_FieldsBlanks.F l n s = some true from lim_some h
  have hj : solsticelaw05_FieldsBlanks.J0 l n s true = some true := by rw [solsticelaw05_FieldsBlanks.J0_eq, if_pos rfl]
  rw [solsticelaw05_FieldsBlanks.F_eq]
  by_cases h1 : (l.length : Int) > 20
  · rw [if_pos h1, hj]
  · rw [if_neg h1]
    by_cases h2 : (s.size : Int) > 100
    · rw [decide_eq_true h2, hj]
    · rw [decide_eq_false h2, solsticelaw05_FieldsBlanks.J0_eq, if_neg (by simp), bind_some_]
      have ha := bls_at n
      obtain ⟨b, e1, e2, e3, e4⟩ := bls_is ha
      rw [if_pos ha.1]
      show (if wrap64 (Int.tmod (IntKind.u64.wrap n) 4) < ((bls.length : Nat) : Int) then solsticelaw05_FieldsBlanks.L0 l n s bls (rdOf ByteArray.empty bls (wrap64 (Int.tmod (IntKind.u64.wrap n) 4))) 0 else none) = some true
      rw [if_pos (show _ < ((bls.length : Nat) : Int) from ha.2), e1]
      have hbb := bl_bytes e3
      exact l0_true l n s (by omega) (by omega) l.length 0 b (by omega) (by omega) ⟨hbb.1, hbb.2, by omega, run_blanks [] b e3⟩
end Go.Proofs.YtmkknigneppneaaDoor.Pure
