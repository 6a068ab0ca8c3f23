/- The law AtBack over numbers and lists: for every three whole numbers the law's printed function answers true. -/
import Derived.Test.YtlfohcjajmebjaaDoorAtA
import Derived.Test.YtlfohcjajmebjaaDoorEClkx5
namespace Go.Proofs.YtlfohcjajmebjaaDoor.Pure
open Go.RowKit Go.Proofs.YtlfohcjajmebjaaDoor.PClk Go.Proofs.YtlfohcjajmebjaaDoorW.PrintWords Go.Proofs.YtlfohcjajmebjaaDoorW.PrintLast Go.Proofs.YtlfohcjajmebjaaDoorW.PrintMore Go.Proofs.YtlfohcjajmebjaaDoor.Base
set_option linter.unusedVariables false
set_option linter.unusedSimpArgs false

theorem u64_mod_ (a : Int) (m : Int) (h : 0 < m) (hm : m ≤ 1000000000) : 0 ≤ wrap64 (Int.tmod (IntKind.u64.wrap a) m) ∧ wrap64 (Int.tmod (IntKind.u64.wrap a) m) < m := by
  have h2 : 0 ≤ IntKind.u64.wrap a := by unfold IntKind.wrap; simp [IntKind.signed, IntKind.bits]; omega
  have h3 := Int.emod_nonneg (IntKind.u64.wrap a) (show m ≠ 0 by omega)
  have h4 := Int.emod_lt_of_pos (IntKind.u64.wrap a) h
  rw [Int.tmod_eq_emod_of_nonneg h2, wrap64_id (by omega) (by omega)]
  exact ⟨h3, h4⟩
theorem small_len {n k : Int} (hn : Sec n) : (strOfNums (ctxt n ++ letter k)).size ≤ 1000000 := by
  have := ctxt_len hn
  have hl : (letter k).length ≤ 1 := by
    unfold letter
    split
    · simp
    · split <;> simp
  rw [size_strOf, List.length_append]
  omega
theorem parse_letter {n c : Int} (hn : Sec n) (hc : 0 ≤ c ∧ c ≤ 255) (hk : kindOf c ≠ 0) : atform_Parse.F (strOfNums (ctxt n) ++ strOfNums [c]) = some (n, kindOf c, 0) := by
  have hl := ctxt_len hn
  rw [strOf_append, at_Parse_eq _ (by rw [size_strOf, List.length_append, List.length_singleton]; omega), atS_letter hn hc hk]
  rfl
theorem aback_J0 (x n : Int) (hn : Sec n) (k0 : Int) : solsticelaw08_AtBack.J0 x false n k0 = some true := by
  obtain ⟨j0, j1⟩ := u64_mod_ x 11 (by omega) (by omega)
  have t1 : atform_Text.F n 1 = some (strOfNums (ctxt n), 0) := by
    have hn' := hn
    unfold Sec at hn'
    rw [at_Text_eq n 1 (by omega), if_pos ⟨hn, by decide⟩, show letter 1 = [] from rfl, List.append_nil]
  have hl := ctxt_len hn
  rw [solsticelaw08_AtBack.J0_eq, if_neg (by simp), t1, bind_some_, bind_some_, wakes08]
  generalize wrap64 (Int.tmod (IntKind.u64.wrap x) 11) = j at *
  dsimp only
  rw [if_pos j0, if_pos (by simp only [List.length_cons, List.length_nil]; omega)]
  have p0 : atform_Parse.F (strOfNums (ctxt n) ++ (⟨#[]⟩ : ByteArray)) = some (n, 1, 0) := by
    have := at_Parse_eq (strOfNums (ctxt n ++ letter 1)) (small_len hn)
    rw [atS_ctxt hn (by decide), show letter 1 = [] from rfl] at this
    rw [show (⟨#[]⟩ : ByteArray) = strOfNums [] from rfl, strOf_append]
    exact this
  have pl : ∀ (c : UInt8), kindOf (c.toNat : Int) ≠ 0 → atform_Parse.F (strOfNums (ctxt n) ++ (⟨#[c]⟩ : ByteArray)) = some (n, kindOf (c.toNat : Int), 0) := by
    intro c hk
    have hc := c.toNat_lt
    have e : (⟨#[c]⟩ : ByteArray) = strOfNums [(c.toNat : Int)] := by
      apply bytes_inj
      rw [bytes_strOf (Bytes.cons (by omega) (by omega) Bytes.nil)]
      rfl
    rw [e]
    exact parse_letter hn (by omega) hk
  have hsz : ∀ b : ByteArray, b.size ≤ 1 → (strOfNums (ctxt n)).size + b.size ≤ 9223372036854775807 := by
    intro b hb
    rw [size_strOf]
    omega
  have hc : j = 0 ∨ j = 1 ∨ j = 2 ∨ j = 3 ∨ j = 4 ∨ j = 5 ∨ j = 6 ∨ j = 7 ∨ j = 8 ∨ j = 9 ∨ j = 10 := by omega
  clear j0 j1
  rcases hc with rfl | rfl | rfl | rfl | rfl | rfl | rfl | rfl | rfl | rfl | rfl
  · rw [if_pos (hsz _ (by decide))]
    show (atform_Parse.F (strOfNums (ctxt n) ++ (⟨#[]⟩ : ByteArray))).bind _ = _
    rw [p0, bind_some_]
    rw [if_neg (by omega), if_neg (by omega), if_pos rfl, if_pos rfl, if_pos rfl, if_pos rfl, bind_some_]
  all_goals rw [if_pos (hsz _ (by decide))]
  · show (atform_Parse.F (strOfNums (ctxt n) ++ (⟨#[119]⟩ : ByteArray))).bind _ = _
    rw [pl 119 (by decide), show kindOf ((UInt8.toNat 119 : Nat) : Int) = 1 from by decide, bind_some_]
    rw [if_neg (by omega), if_neg (by omega), if_pos rfl, if_pos rfl, if_pos rfl, if_pos rfl, bind_some_]
  · show (atform_Parse.F (strOfNums (ctxt n) ++ (⟨#[87]⟩ : ByteArray))).bind _ = _
    rw [pl 87 (by decide), show kindOf ((UInt8.toNat 87 : Nat) : Int) = 1 from by decide, bind_some_]
    rw [if_neg (by omega), if_neg (by omega), if_pos rfl, if_pos rfl, if_pos rfl, if_pos rfl, bind_some_]
  · show (atform_Parse.F (strOfNums (ctxt n) ++ (⟨#[115]⟩ : ByteArray))).bind _ = _
    rw [pl 115 (by decide), show kindOf ((UInt8.toNat 115 : Nat) : Int) = 2 from by decide, bind_some_]
    rw [if_pos (by omega), if_neg (by omega), if_pos rfl, if_pos rfl, if_pos rfl, if_pos rfl, bind_some_]
  · show (atform_Parse.F (strOfNums (ctxt n) ++ (⟨#[83]⟩ : ByteArray))).bind _ = _
    rw [pl 83 (by decide), show kindOf ((UInt8.toNat 83 : Nat) : Int) = 2 from by decide, bind_some_]
    rw [if_pos (by omega), if_neg (by omega), if_pos rfl, if_pos rfl, if_pos rfl, if_pos rfl, bind_some_]
  · show (atform_Parse.F (strOfNums (ctxt n) ++ (⟨#[117]⟩ : ByteArray))).bind _ = _
    rw [pl 117 (by decide), show kindOf ((UInt8.toNat 117 : Nat) : Int) = 3 from by decide, bind_some_]
    rw [if_pos (by omega), if_pos (by omega), if_pos rfl, if_pos rfl, if_pos rfl, if_pos rfl, bind_some_]
  · show (atform_Parse.F (strOfNums (ctxt n) ++ (⟨#[85]⟩ : ByteArray))).bind _ = _
    rw [pl 85 (by decide), show kindOf ((UInt8.toNat 85 : Nat) : Int) = 3 from by decide, bind_some_]
    rw [if_pos (by omega), if_pos (by omega), if_pos rfl, if_pos rfl, if_pos rfl, if_pos rfl, bind_some_]
  · show (atform_Parse.F (strOfNums (ctxt n) ++ (⟨#[103]⟩ : ByteArray))).bind _ = _
    rw [pl 103 (by decide), show kindOf ((UInt8.toNat 103 : Nat) : Int) = 3 from by decide, bind_some_]
    rw [if_pos (by omega), if_pos (by omega), if_pos rfl, if_pos rfl, if_pos rfl, if_pos rfl, bind_some_]
  · show (atform_Parse.F (strOfNums (ctxt n) ++ (⟨#[71]⟩ : ByteArray))).bind _ = _
    rw [pl 71 (by decide), show kindOf ((UInt8.toNat 71 : Nat) : Int) = 3 from by decide, bind_some_]
    rw [if_pos (by omega), if_pos (by omega), if_pos rfl, if_pos rfl, if_pos rfl, if_pos rfl, bind_some_]
  · show (atform_Parse.F (strOfNums (ctxt n) ++ (⟨#[122]⟩ : ByteArray))).bind _ = _
    rw [pl 122 (by decide), show kindOf ((UInt8.toNat 122 : Nat) : Int) = 3 from by decide, bind_some_]
    rw [if_pos (by omega), if_pos (by omega), if_pos rfl, if_pos rfl, if_pos rfl, if_pos rfl, bind_some_]
  · show (atform_Parse.F (strOfNums (ctxt n) ++ (⟨#[90]⟩ : ByteArray))).bind _ = _
    rw [pl 90 (by decide), show kindOf ((UInt8.toNat 90 : Nat) : Int) = 3 from by decide, bind_some_]
    rw [if_pos (by omega), if_pos (by omega), if_pos rfl, if_pos rfl, if_pos rfl, if_pos rfl, bind_some_]
theorem AtBack : solsticelaw08_AtBack.Pure := by
  intro a b c _ _ _
  suffices h : solsticelaw08_AtBack.F a b c = some true from lim_some h
  have hm : Sec (Int.tmod a 345601) := by
    have h2 := Int.tmod_lt_of_pos a (show (0 : Int) < 345601 by omega)
    have h3 := Int.tmod_lt_of_pos (-a) (show (0 : Int) < 345601 by omega)
    rw [Int.neg_tmod] at h3
    unfold Sec
    omega
  obtain ⟨k0, k1⟩ := u64_mod_ b 3 (by omega) (by omega)
  have hk : Kin (wrap64 (1 + wrap64 (Int.tmod (IntKind.u64.wrap b) 3))) := by
    rw [wrap64_id (n := 1 + wrap64 (Int.tmod (IntKind.u64.wrap b) 3)) (by omega) (by omega)]
    unfold Kin
    omega
  rw [solsticelaw08_AtBack.F_eq]
  generalize Int.tmod a 345601 = n at *
  generalize wrap64 (1 + wrap64 (Int.tmod (IntKind.u64.wrap b) 3)) = k at *
  have hm' := hm
  unfold Sec at hm'
  rw [at_Text_eq n k (by omega), if_pos ⟨hm, hk⟩, bind_some_, at_Parse_eq _ (small_len hm), atS_ctxt hm hk, bind_some_]
  unfold encAt
  dsimp only
  rw [if_pos rfl, if_pos rfl, show (!(n == n) || !(k == k)) = false by simp, aback_J0 c n hm k]
end Go.Proofs.YtlfohcjajmebjaaDoor.Pure
