/- The law NumTexts over numbers and lists: for every two numbers and every sign the law's printed function answers true. -/
import Derived.Test.YtlfohcjajmebjaaDoorNumB
import Derived.Test.YtlfohcjajmebjaaDoorNumW
import Derived.Test.YtlfohcjajmebjaaDoorENumx2
namespace Go.Proofs.YtlfohcjajmebjaaDoor.Pure
open Go.RowKit Go.Proofs.YtlfohcjajmebjaaDoor.PNum Go.Proofs.YtlfohcjajmebjaaDoorW.PrintWords Go.Proofs.YtlfohcjajmebjaaDoorW.PrintLast Go.Proofs.YtlfohcjajmebjaaDoorW.PrintMore Go.Proofs.YtlfohcjajmebjaaDoor.Base
set_option linter.unusedVariables false
set_option linter.unusedSimpArgs false

theorem u64_mod (a : Int) (m : Int) (h : 0 < m) (hm : m ≤ 1000000000) : 0 ≤ wrap64 (Int.tmod (IntKind.u64.wrap a) m) ∧ wrap64 (Int.tmod (IntKind.u64.wrap a) m) < m := by
  have h2 : 0 ≤ IntKind.u64.wrap a := u64_nonneg a
  have h3 := Int.emod_nonneg (IntKind.u64.wrap a) (show m ≠ 0 by omega)
  have h4 := Int.emod_lt_of_pos (IntKind.u64.wrap a) h
  rw [Int.tmod_eq_emod_of_nonneg h2, wrap64_id (by omega) (by omega)]
  exact ⟨h3, h4⟩
theorem txt_dig {n d : Int} (h : 0 ≤ n) : (txt n d).all isDig = true := by
  unfold txt
  rw [if_neg (by omega), List.all_append, digs_dig, Bool.and_true]
  rw [List.all_eq_true]
  intro x hx
  obtain ⟨_, rfl⟩ := List.mem_replicate.1 hx
  decide
theorem txt_val {n d : Int} (h : 0 ≤ n) : val 0 (txt n d) = n := by
  unfold txt
  rw [if_neg (by omega), val_append, val_zeros, digs_val]
  omega
theorem txt_pars {n d : Int} (h : 0 ≤ n) (hl : (txt n d).length ≤ 18) : parsS (txt n d) = (n, true) := by
  have h1 : 1 ≤ (txt n d).length := by
    unfold txt
    rw [if_neg (by omega), List.length_append]
    have := digs_pos n.toNat
    omega
  unfold parsS
  rw [if_pos ⟨h1, hl, txt_dig h⟩, txt_val h]
theorem texts_J0 (n d c : Int) (s : ByteArray) (l : List Int) (e : s = strOfNums l) (hb : Bytes l) (hd : l.all isDig = true) (hl : 1 ≤ l.length ∧ l.length ≤ 18) (hn : 0 ≤ n ∧ n ≤ 1000000000) (hdd : 0 ≤ d ∧ d ≤ 100) (hc : 0 ≤ c ∧ c ≤ 255) : solsticelaw01_NumTexts.J0 n d c s false = some true := by
  have hz : s.size = l.length := by rw [e, size_strOf]
  have hw : wrap64 ((s.size : Int) - 1) = (l.length : Int) - 1 := by rw [hz]; exact wrap64_id (by omega) (by omega)
  have hx : s.extract 0 ((l.length : Int) - 1).toNat = strOfNums (l.take (l.length - 1)) := by
    apply bytes_inj
    rw [bytes_extract, e, bytes_strOf hb, bytes_strOf (fun x hx => hb x (List.mem_of_mem_take hx)), List.drop_zero]
    congr 1
    omega
  have hcb : Bytes [c] := Bytes.cons hc.1 hc.2 Bytes.nil
  have htb : Bytes (l.take (l.length - 1)) := fun x hx => hb x (List.mem_of_mem_take hx)
  have hp : parsS (l.take (l.length - 1) ++ [c]) = (if isDig c = true then (val 0 (l.take (l.length - 1) ++ [c]), true) else (0, false)) := by
    unfold parsS
    have h1 : (l.take (l.length - 1) ++ [c]).length = l.length := by rw [List.length_append, List.length_take, List.length_singleton]; omega
    have h2 : (l.take (l.length - 1) ++ [c]).all isDig = isDig c := by
      rw [List.all_append, List.all_cons, List.all_nil, Bool.and_true]
      have : (l.take (l.length - 1)).all isDig = true := by
        rw [List.all_eq_true] at hd ⊢
        exact fun x hx => hd x (List.mem_of_mem_take hx)
      rw [this, Bool.true_and]
    rw [h1, h2]
    by_cases h : isDig c = true
    · rw [if_pos ⟨hl.1, hl.2, h⟩, if_pos h]
    · rw [if_neg (fun h' => h h'.2.2), if_neg h]
  have hp2 : (parsS (l.take (l.length - 1) ++ [c])).2 = isDig c := by
    rw [hp]
    cases isDig c <;> rfl
  have hnil : parsS (bytesOf (⟨#[]⟩ : ByteArray)) = (0, false) := by decide
  have hneg : txt (-1 - n) d = [] := by unfold txt; rw [if_pos (by omega)]
  have hwn : wrap64 (-1 - n) = -1 - n := wrap64_id (by omega) (by omega)
  rw [solsticelaw01_NumTexts.J0_eq, if_neg (by simp), hw, if_pos (by omega), if_pos (by omega), bind_some_, hx, size_strOf, size_strOf, if_pos (by rw [List.length_take, List.length_singleton]; omega), strOf_append, num_Parse_str (Bytes.app htb hcb), bind_some_, hp2, num_Parse_eq, hnil, bind_some_, bind_some_, hwn, num_Text_eq _ _ (by omega) (by omega), bind_some_, hneg, wakes_eq, bind_some_]
  have hfin : (if (strOfNums []).toList = ([] : List UInt8) then some true else some false) = some true := by decide +kernel
  by_cases h48 : c ≥ 48
  · have : isDig c = decide (c ≤ 57) := by
      unfold isDig
      rw [decide_eq_true (show 48 ≤ c from h48), Bool.true_and]
    rw [if_pos h48, this, if_pos (by simp), if_neg (by simp), hfin]
  · have : isDig c = false := by
      unfold isDig
      rw [decide_eq_false (show ¬ 48 ≤ c from h48), Bool.false_and]
    rw [if_neg h48, this, if_pos (by simp), if_neg (by simp), hfin]
theorem NumTexts : solsticelaw01_NumTexts.Pure := by
  intro a0 a1 c hw0 hw1 hw2
  have hc := wfu8 hw2
  suffices h : solsticelaw01_NumTexts.F a0 a1 c = some true from lim_some h
  rw [solsticelaw01_NumTexts.F_eq]
  obtain ⟨n0, n1⟩ := u64_mod a0 1000000000 (by omega) (by omega)
  obtain ⟨d0, d1⟩ := u64_mod a1 19 (by omega) (by omega)
  generalize wrap64 (Int.tmod (IntKind.u64.wrap a0) 1000000000) = n at *
  generalize wrap64 (Int.tmod (IntKind.u64.wrap a1) 19) = d at *
  have hdl : (digs n.toNat).length ≤ 9 := digs_len _ 9 (by omega) (by
    have : (10 : Nat) ^ 9 = 1000000000 := by decide
    omega)
  have hdp := digs_pos n.toNat
  have hwd : wide d = d.toNat := by unfold wide; rw [if_neg (by omega)]
  have hlen : (txt n d).length = d.toNat - (digs n.toNat).length + (digs n.toNat).length := by
    unfold txt
    rw [if_neg (by omega), List.length_append, List.length_replicate, hwd]
  rw [num_Text_eq n d (by omega) (by omega), bind_some_, num_Parse_str (txt_bytes n d), bind_some_, txt_pars n0 (by omega)]
  dsimp only
  rw [if_pos rfl, if_pos rfl, size_strOf, if_neg (by omega)]
  have key := texts_J0 n d c _ (txt n d) rfl (txt_bytes n d) (txt_dig n0) ⟨by omega, by omega⟩ (by omega) (by omega) hc
  by_cases h : ((txt n d).length : Int) > mx d 1
  · rw [if_pos h, if_pos (by omega)]
    have h1 : d < (txt n d).length ∧ 1 < ((txt n d).length : Int) := by
      unfold mx at h
      split at h <;> omega
    have e : txt n d = digs n.toNat := by
      unfold txt
      rw [if_neg (by omega), hwd, show d.toNat - (digs n.toNat).length = 0 by omega]
      rfl
    have hne : (bt (strOfNums (txt n d)) 0 == 48) = false := by
      have hb0 : rest (strOfNums (txt n d)) 0 = txt n d := by rw [rest_zero, bytes_strOf (txt_bytes n d)]
      rw [rest_cons (by omega) (by rw [size_strOf]; omega), e] at hb0
      have hne0 := digs_head n.toNat _ _ hb0.symm (fun h0 => by
        rw [h0] at hb0
        have : (digs n.toNat).length = 1 := by rw [← hb0]; rfl
        rw [e] at h1
        omega)
      rw [e]
      simpa using hne0
    rw [hne]
    exact key
  · rw [if_neg h]
    exact key
end Go.Proofs.YtlfohcjajmebjaaDoor.Pure
