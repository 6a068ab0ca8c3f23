-- A text of the kit's tools for this claim, its remarks left out.
import Derived.Test.YtookjnpmbenheaaLinE
import Derived.Test.YtookjnpmbenheaaLinF
import Derived.Test.YtookjnpmbenheaaELinx13
namespace Go.Proofs.Ytookjnpmbenheaa.Pure
open Go.RowKit Go.Proofs.Ytookjnpmbenheaa.PLin Go.Proofs.YtookjnpmbenheaaW.PrintWords Go.Proofs.YtookjnpmbenheaaW.PrintLast Go.Proofs.YtookjnpmbenheaaW.PrintMore Go.Proofs.Ytookjnpmbenheaa.Base
set_option linter.unusedVariables false
set_option linter.unusedSimpArgs false
theorem prs_fit {l : List Int} {n : ByteArray} {ps : List S54} {v : ByteArray} (h : prsS l = some (n, ps, v)) : ps.length ≤ l.length ∧ ∀ p ∈ ps, p.f1.length ≤ l.length + 1 := by
 have hpl := congrArg List.length (pre_suf [58, 59] l)
 rw [List.length_append] at hpl
 unfold prsS at h
 split at h
 ·cases h
 ·rename_i us r hp
  obtain ⟨_, _, g3, g4⟩ := parsS_len l.length _ _ _ _ _ hp (by omega) (by simp)
  rw [List.length_nil] at g3
  split at h
  ·simp only [Option.some.injEq, Prod.mk.injEq] at h
   obtain ⟨_, rfl, _⟩ := h
   exact ⟨by omega, fun p hp => (g4 p hp).2.2⟩
  ·cases h
theorem fnd_len (q : ByteArray) : ∀ {ps : List S54}, (∀ p ∈ ps, LightP p) → (fnd q ps).1.length ≤ 20
 | [], _ => by simp [fnd]
 | p :: ps, h => by
  unfold fnd
  split
  ·exact (h p (List.mem_cons_self ..)).2.1
  ·exact fnd_len q (fun r hr => h r (List.mem_cons_of_mem _ hr))
theorem exact_end (n : ByteArray) (ps : List S54) (v : ByteArray) (hL : Light n ps v) : ∀ (d : Nat) (xs : List ByteArray) (i : Int), d = xs.length - i.toNat → 0 ≤ i → i ≤ (xs.length : Int) → xs.length ≤ 1000 →
  solsticelaw18_LineExact.L0 (if lnS n ps v = true then (strOfNums (txtS n ps v), (0 : Int)) else ((⟨#[]⟩ : ByteArray), 18)).1 (if lnS n ps v = true then (strOfNums (txtS n ps v), (0 : Int)) else ((⟨#[]⟩ : ByteArray), 18)).2 xs i n ps v n ps v = some true := by
 have hnil : (⟨#[]⟩ : ByteArray).toList = ([] : List UInt8) := by rw [ByteArray.toList_eq]
 obtain ⟨k1, k2, k3, k4⟩ := hL
 have hfp : ∀ p ∈ ps, FitP p := fun p hp => light_fit (k4 p hp)
 intro d
 induction d with
 | zero =>
  intro xs i hd h0 h1 hl
  rw [solsticelaw18_LineExact.L0_eq, if_neg (by omega), keep_line n ps v n ps v (by omega) (fun p hp => by have := (k4 p hp).2.1; omega), bind_some_, if_pos (by simp), refline_eq n ps v (by omega) (by omega) hfp (by omega), bind_some_, Check_eq n ps v (by omega) (by omega) hfp (by omega), bind_some_, wakes18]
  by_cases h : lnS n ps v = true
  ·have e : (if lnS n ps v = true then (strOfNums (txtS n ps v), (0 : Int)) else ((⟨#[]⟩ : ByteArray), 18)) = (strOfNums (txtS n ps v), 0) := if_pos h
   rw [e]
   dsimp only
   rw [if_pos h, if_pos h, if_pos rfl, if_pos rfl, rtext_eq n ps v ⟨k1, k2, k3, k4⟩, bind_some_, if_pos rfl, bind_some_]
  ·have e : (if lnS n ps v = true then (strOfNums (txtS n ps v), (0 : Int)) else ((⟨#[]⟩ : ByteArray), 18)) = ((⟨#[]⟩ : ByteArray), 18) := if_neg h
   rw [e]
   dsimp only
   rw [if_neg h, bind_some_, if_neg h, if_pos rfl, if_pos rfl, if_pos hnil, bind_some_]
 | succ d ih =>
  intro xs i hd h0 h1 hl
  have hlt : i < (xs.length : Int) := by omega
  rw [solsticelaw18_LineExact.L0_eq, if_pos hlt, if_pos h0, wrap64_id (n := i + 1) (by omega) (by omega)]
  have hs : (xs.set i.toNat (⟨#[111, 116, 104, 101, 114]⟩ : ByteArray)).length = xs.length := List.length_set
  exact ih _ (i + 1) (by rw [hs]; omega) (by omega) (by rw [hs]; omega) (by rw [hs]; exact hl)
theorem LineExact_F (n : ByteArray) (ps : List S54) (v s q : ByteArray) : solsticelaw18_LineExact.F n ps v s q = some true := by
 have stop : solsticelaw18_LineExact.J0 s q true n ps v = some true := by rw [solsticelaw18_LineExact.J0_eq, if_pos rfl]
 have hz := bytesOf_length s
 rw [solsticelaw18_LineExact.F_eq, stop]
 rcases Heavy_eq n ps v with h1 | ⟨h1, g1⟩
 ·rw [h1, bind_some_, if_pos rfl]
 ·rw [h1, bind_some_, if_neg (by simp)]
  by_cases h2 : (s.size : Int) > 1000
  ·rw [if_pos h2]
  ·rw [if_neg h2]
   by_cases h3 : (q.size : Int) > 200
   ·rw [decide_eq_true h3, stop]
   ·have g1' := g1
    obtain ⟨k1, k2, k3, k4⟩ := g1
    have hf := fnd_len q k4
    obtain ⟨p1, p2⟩ := param_eq_ n ps v q k4 (by omega)
    have hend := exact_end n ps v g1' _ (fnd q ps).1 0 rfl (by omega) (by omega) (by omega)
    have hJ1 : solsticelaw18_LineExact.J1 (if lnS n ps v = true then (strOfNums (txtS n ps v), (0 : Int)) else ((⟨#[]⟩ : ByteArray), 18)).1 (if lnS n ps v = true then (strOfNums (txtS n ps v), (0 : Int)) else ((⟨#[]⟩ : ByteArray), 18)).2 (fnd q ps).1 false n ps v n ps v = some true := by
     rw [solsticelaw18_LineExact.J1_eq, if_neg (by simp)]
     exact hend
    have hbne : ((fnd q ps).2 != (fnd q ps).2) = false := by simp
    rw [decide_eq_false h3, solsticelaw18_LineExact.J0_eq, if_neg (by simp), twin_eq n ps v k4 (by omega), bind_some_]
    dsimp only
    rw [Text_eq n ps v g1', bind_some_, Parse_eq s (by omega), bind_some_, p1, bind_some_, page_Parse s (by omega), bind_some_, p2, bind_some_, ← prs_same (bytes_of s)]
    cases hp : prsS (bytesOf s) with
    | none =>
     unfold encL encR
     dsimp only
     rw [keep_line _ _ _ _ _ _ (by simp) (by simp), bind_some_, if_pos (by simp), if_neg (by decide), if_neg (by simp), if_pos rfl, hbne, if_neg (by simp), keep_texts _ _ (by omega), bind_some_, decide_eq_true rfl, Bool.not_true]
     exact hJ1
    | some x =>
     obtain ⟨n', ps', v'⟩ := x
     obtain ⟨f1, f2⟩ := prs_fit hp
     unfold encL encR
     dsimp only
     rw [keep_line _ _ _ _ _ _ (by omega) (fun p hp => by have := f2 p hp; omega), bind_some_, if_pos (by simp), if_neg (by decide), if_pos rfl, hbne, if_neg (by simp), keep_texts _ _ (by omega), bind_some_, decide_eq_true rfl, Bool.not_true]
     exact hJ1
theorem LineExact (n : ByteArray) (ps : List S54) (v s q : ByteArray) (w1 : s.size ≤ 140737488351232) (w2 : q.size ≤ 140737488351232) : ∃ k, solsticelaw18_LineExact.f k n ps v s q = some true := lim_some (LineExact_F _ _ _ _ _)
end Go.Proofs.Ytookjnpmbenheaa.Pure
