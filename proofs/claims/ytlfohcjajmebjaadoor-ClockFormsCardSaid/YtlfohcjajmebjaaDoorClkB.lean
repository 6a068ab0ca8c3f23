/- A time's text, its day and seconds, both joined: what the printed functions compute; what is written is read. No condition. -/
import Derived.Test.YtlfohcjajmebjaaDoorClkA
import Derived.Test.YtlfohcjajmebjaaDoorEClkx2
import Derived.Test.YtlfohcjajmebjaaDoorEClkx6
import Derived.Test.YtlfohcjajmebjaaDoorPClkx6
import Derived.Test.YtlfohcjajmebjaaDoorPClkx2
namespace Go.Proofs.YtlfohcjajmebjaaDoor.Base
open Go.RowKit Go.Proofs.YtlfohcjajmebjaaDoor.PClk Go.Proofs.YtlfohcjajmebjaaDoorW.PrintWords Go.Proofs.YtlfohcjajmebjaaDoorW.PrintLast Go.Proofs.YtlfohcjajmebjaaDoorW.PrintMore
set_option linter.unusedVariables false
set_option linter.unusedSimpArgs false

theorem txt_len {n d : Int} (h1 : n ≤ 9223372036854775807) : (txt n d).length ≤ 20 := by
  unfold txt wide
  split
  · simp
  · have := digs_len20 h1
    rw [List.length_append, List.length_replicate]
    split
    · omega
    · omega
theorem txt_one (n : Int) : txt n 1 = txt n 0 := by
  unfold txt wide
  have := digs_pos n.toNat
  split
  · rfl
  · rw [if_neg (by omega), if_neg (by omega), show (1 : Int).toNat - (digs n.toNat).length = 0 by omega, show (0 : Int).toNat - (digs n.toNat).length = 0 by omega]
theorem txt_dig_ {n d : Int} (h : 0 ≤ n) : (txt n d).all isDig = true := by
  unfold txt
  rw [if_neg (by omega), List.all_append, digs_dig, Bool.and_true]
  rw [List.all_eq_true]
  intro x hx
  obtain ⟨_, rfl⟩ := List.mem_replicate.1 hx
  decide
theorem txt_val_ {n d : Int} (h : 0 ≤ n) : val 0 (txt n d) = n := by
  unfold txt
  rw [if_neg (by omega), val_append, val_zeros, digs_val]
  omega
theorem txt_two {n : Int} (h : 0 ≤ n) (h1 : n < 100) : (txt n 2).length = 2 := by
  unfold txt wide
  have := digs_pos n.toNat
  have := digs_len n.toNat 2 (by omega) (by
    have : (10 : Nat) ^ 2 = 100 := by decide
    omega)
  rw [if_neg (by omega), if_neg (by omega), List.length_append, List.length_replicate]
  omega
theorem txt_two0 {n : Int} (h : 0 ≤ n) (h1 : n < 100) : 1 ≤ (txt n 0).length ∧ (txt n 0).length ≤ 2 := by
  unfold txt wide
  have := digs_pos n.toNat
  have := digs_len n.toNat 2 (by omega) (by
    have : (10 : Nat) ^ 2 = 100 := by decide
    omega)
  rw [if_neg (by omega), if_neg (by omega), List.length_append, List.length_replicate]
  omega
theorem dig_no58 {l : List Int} (h : l.all isDig = true) : ∀ x ∈ l, x ≠ 58 := fun x hx => by
  have := (isDig_iff x).1 (List.all_eq_true.1 h x hx)
  omega
/-- Behind the sign. -/
def ctail (m : Int) : List Int := txt (m / 3600) 0 ++ ((if m % 3600 = 0 then [] else 58 :: txt (m % 3600 / 60) 2) ++ (if m % 60 = 0 then [] else 58 :: txt (m % 60) 2))
def ctxt (n : Int) : List Int := if n < 0 then 45 :: ctail (-n) else ctail n
theorem ctail_bytes (m : Int) : Bytes (ctail m) := by
  unfold ctail
  refine Bytes.app (txt_bytes _ _) (Bytes.app ?_ ?_)
  · split
    · exact Bytes.nil
    · exact Bytes.cons (by omega) (by omega) (txt_bytes _ _)
  · split
    · exact Bytes.nil
    · exact Bytes.cons (by omega) (by omega) (txt_bytes _ _)
theorem ctxt_bytes (n : Int) : Bytes (ctxt n) := by
  unfold ctxt
  split
  · exact Bytes.cons (by omega) (by omega) (ctail_bytes _)
  · exact ctail_bytes _
theorem ctail_len {m : Int} (h1 : m ≤ 9223372036854775807) (h0 : 0 ≤ m) : (ctail m).length ≤ 62 := by
  unfold ctail
  have a := txt_len (n := m / 3600) (d := 0) (by omega)
  have b := txt_len (n := m % 3600 / 60) (d := 2) (by omega)
  have c := txt_len (n := m % 60) (d := 2) (by omega)
  rw [List.length_append, List.length_append]
  have e1 : (if m % 3600 = 0 then [] else 58 :: txt (m % 3600 / 60) 2).length ≤ 21 := by
    split
    · simp
    · rw [List.length_cons]; omega
  have e2 : (if m % 60 = 0 then [] else 58 :: txt (m % 60) 2).length ≤ 21 := by
    split
    · simp
    · rw [List.length_cons]; omega
  omega
theorem ctxt_len {n : Int} (h1 : -345600 ≤ n ∧ n ≤ 345600) : (ctxt n).length ≤ 63 := by
  unfold ctxt
  split
  · have := ctail_len (m := -n) (by omega) (by omega)
    rw [List.length_cons]; omega
  · have := ctail_len (m := n) (by omega) (by omega)
    omega
theorem colon_app (l : List Int) : (⟨#[58]⟩ : ByteArray) ++ strOfNums l = strOfNums (58 :: l) := by
  rw [show (⟨#[58]⟩ : ByteArray) = strOfNums [58] from rfl, strOf_append]; rfl
theorem app_colon (l : List Int) : strOfNums l ++ (⟨#[58]⟩ : ByteArray) = strOfNums (l ++ [58]) := by
  rw [show (⟨#[58]⟩ : ByteArray) = strOfNums [58] from rfl, strOf_append]
theorem clock_Text_J1 (m : Int) (sg : List Int) (h : 0 ≤ m ∧ m ≤ 345600) (hs : sg.length ≤ 1) : clock_Text.J1 m (strOfNums sg) = some (strOfNums (sg ++ ctail m), 0) := by
  have e1 : Int.tdiv m 3600 = m / 3600 := Int.tdiv_eq_ediv_of_nonneg (by omega)
  have e2 : Int.tmod m 3600 = m % 3600 := Int.tmod_eq_emod_of_nonneg (by omega)
  have e3 : Int.tmod m 60 = m % 60 := Int.tmod_eq_emod_of_nonneg (by omega)
  have e4 : Int.tdiv (m % 3600) 60 = m % 3600 / 60 := Int.tdiv_eq_ediv_of_nonneg (by omega)
  have a := txt_len (n := m / 3600) (d := 0) (by omega)
  have b := txt_len (n := m % 3600 / 60) (d := 2) (by omega)
  have c := txt_len (n := m % 60) (d := 2) (by omega)
  rw [clock_Text.J1_eq, e1, e2, e3, e4, wrap64_id (n := m / 3600) (by omega) (by omega), wrap64_id (n := m % 3600 / 60) (by omega) (by omega), num_Text_eq _ 1 (by omega) (by omega), bind_some_, txt_one, size_strOf, size_strOf, if_pos (by omega)]
  unfold ctail
  by_cases h1 : m % 3600 = 0
  · have h2 : m % 60 = 0 := by omega
    rw [if_pos h1, if_pos h2, if_pos h1, if_pos h2, strOf_append, List.append_nil, List.append_nil]
  · rw [if_neg h1, if_neg h1, num_Text_eq _ 2 (by omega) (by omega), bind_some_, size_strOf, if_pos (by omega), strOf_append, colon_app, size_strOf, size_strOf, if_pos (by rw [List.length_append, List.length_cons]; omega), strOf_append]
    by_cases h2 : m % 60 = 0
    · rw [if_pos h2, if_pos h2, List.append_nil, List.append_assoc]
    · rw [if_neg h2, if_neg h2, num_Text_eq _ 2 (by omega) (by omega), bind_some_, size_strOf, if_pos (by omega), colon_app, size_strOf, size_strOf, if_pos (by simp only [List.length_append, List.length_cons]; omega), strOf_append, List.append_assoc, List.append_assoc]
theorem clock_Text_eq (n : Int) (hn : -9223372036854775808 ≤ n ∧ n ≤ 9223372036854775807) : clock_Text.F n = some (if -345600 ≤ n ∧ n ≤ 345600 then (strOfNums (ctxt n), 0) else ((⟨#[]⟩ : ByteArray), 5)) := by
  rw [clock_Text.F_eq]
  by_cases h1 : n < -345600
  · rw [if_pos h1, clock_Text.J0_eq, if_pos rfl, if_neg (by omega)]
  · rw [if_neg h1, clock_Text.J0_eq]
    by_cases h2 : n > 345600
    · rw [if_pos (decide_eq_true h2), if_neg (by omega)]
    · have hR : (if -345600 ≤ n ∧ n ≤ 345600 then (strOfNums (ctxt n), (0 : Int)) else ((⟨#[]⟩ : ByteArray), 5)) = (strOfNums (ctxt n), 0) := if_pos ⟨by omega, by omega⟩
      rw [hR, if_neg (by simpa using h2)]
      unfold ctxt
      by_cases h3 : n < 0
      · rw [if_pos h3, if_pos h3, wrap64_id (by omega) (by omega), show (⟨#[45]⟩ : ByteArray) = strOfNums [45] from rfl, clock_Text_J1 _ _ (by omega) (by simp)]
        rfl
      · rw [if_neg h3, if_neg h3, show (⟨#[]⟩ : ByteArray) = strOfNums [] from rfl, clock_Text_J1 _ _ (by omega) (by simp)]
        rfl
theorem ref_ClockText_J0 (m : Int) (sg : List Int) (h : 0 ≤ m ∧ m ≤ 345600) (hs : sg.length ≤ 1) : solsticeref01_ClockText.J0 m (strOfNums sg) = some (strOfNums (sg ++ ctail m)) := by
  have e1 : Int.tdiv m 3600 = m / 3600 := Int.tdiv_eq_ediv_of_nonneg (by omega)
  have e2 : Int.tmod m 3600 = m % 3600 := Int.tmod_eq_emod_of_nonneg (by omega)
  have e3 : Int.tmod m 60 = m % 60 := Int.tmod_eq_emod_of_nonneg (by omega)
  have e5 : Int.tdiv m 60 = m / 60 := Int.tdiv_eq_ediv_of_nonneg (by omega)
  have e4 : Int.tmod (m / 60) 60 = m % 3600 / 60 := by rw [Int.tmod_eq_emod_of_nonneg (by omega)]; omega
  have a := txt_len (n := m / 3600) (d := 0) (by omega)
  have b := txt_len (n := m % 3600 / 60) (d := 2) (by omega)
  have c := txt_len (n := m % 60) (d := 2) (by omega)
  rw [solsticeref01_ClockText.J0_eq, e1, e2, e3, e5, wrap64_id (n := m / 3600) (by omega) (by omega), wrap64_id (n := m / 60) (by omega) (by omega), e4, ref_Text_eq _ 0 (by omega), bind_some_, size_strOf, size_strOf, if_pos (by omega)]
  unfold ctail
  by_cases h1 : m % 3600 = 0
  · have h2 : m % 60 = 0 := by omega
    rw [if_pos h1, if_pos h2, if_pos h1, if_pos h2, strOf_append, List.append_nil, List.append_nil]
  · rw [if_neg h1, if_neg h1, strOf_append, size_strOf, if_pos (by rw [List.length_append]; omega), ref_Text_eq _ 2 (by omega), bind_some_, app_colon, size_strOf, size_strOf, if_pos (by simp only [List.length_append, List.length_singleton]; omega), strOf_append]
    by_cases h2 : m % 60 = 0
    · rw [if_pos h2, if_pos h2, List.append_nil]
      simp [List.append_assoc]
    · rw [if_neg h2, if_neg h2, size_strOf, if_pos (by simp only [List.length_append, List.length_singleton]; omega), ref_Text_eq _ 2 (by omega), bind_some_, app_colon, size_strOf, size_strOf, if_pos (by simp only [List.length_append, List.length_singleton]; omega), strOf_append]
      simp [List.append_assoc]
theorem ref_ClockText_eq (n : Int) (hn : -345600 ≤ n ∧ n ≤ 345600) : solsticeref01_ClockText.F n = some (strOfNums (ctxt n)) := by
  rw [solsticeref01_ClockText.F_eq]
  unfold ctxt
  by_cases h3 : n < 0
  · rw [if_pos h3, if_pos h3, wrap64_id (by omega) (by omega), show (⟨#[45]⟩ : ByteArray) = strOfNums [45] from rfl, ref_ClockText_J0 _ _ (by omega) (by simp)]
    rfl
  · rw [if_neg h3, if_neg h3, show (⟨#[]⟩ : ByteArray) = strOfNums [] from rfl, ref_ClockText_J0 _ _ (by omega) (by simp)]
    rfl
theorem okh_txt {n : Int} (h : 0 ≤ n ∧ n < 100) : okh (txt n 0) = true ∧ val 0 (txt n 0) = n := by
  have := txt_two0 h.1 h.2
  exact ⟨okh_iff.2 ⟨this.1, by omega, txt_dig_ h.1⟩, txt_val_ h.1⟩
theorem okm_txt {n : Int} (h : 0 ≤ n ∧ n < 60) : okm (txt n 2) = true ∧ val 0 (txt n 2) = n :=
  ⟨okm_iff.2 ⟨txt_two h.1 (by omega), txt_dig_ h.1, by rw [txt_val_ h.1]; exact h.2⟩, txt_val_ h.1⟩
theorem ctail_parts {m : Int} (h : 0 ≤ m ∧ m ≤ 345600) : partsV (spl 58 (ctail m)) = some m := by
  obtain ⟨a1, a2⟩ := okh_txt (n := m / 3600) (by omega)
  obtain ⟨b1, b2⟩ := okm_txt (n := m % 3600 / 60) (by omega)
  obtain ⟨c1, c2⟩ := okm_txt (n := m % 60) (by omega)
  have na := dig_no58 (txt_dig_ (n := m / 3600) (d := 0) (by omega))
  have nb := dig_no58 (txt_dig_ (n := m % 3600 / 60) (d := 2) (by omega))
  have nc := dig_no58 (txt_dig_ (n := m % 60) (d := 2) (by omega))
  unfold ctail
  by_cases h1 : m % 3600 = 0
  · have h2 : m % 60 = 0 := by omega
    rw [if_pos h1, if_pos h2, List.append_nil, List.append_nil, spl_no na]
    rw [partsV1, if_pos a1, a2]
    congr 1
    omega
  · rw [if_neg h1]
    by_cases h2 : m % 60 = 0
    · rw [if_pos h2, List.append_nil, spl_hit na, spl_no nb]
      rw [partsV2, if_pos ⟨a1, b1⟩, a2, b2]
      congr 1
      omega
    · rw [if_neg h2, List.cons_append, spl_hit na, spl_hit nb, spl_no nc]
      rw [partsV3, if_pos ⟨a1, b1, c1⟩, a2, b2, c2]
      congr 1
      omega
theorem ctail_head {m : Int} (h : 0 ≤ m) : ∃ c l, ctail m = c :: l ∧ isDig c = true := by
  have := txt_dig_ (n := m / 3600) (d := 0) (by omega)
  unfold ctail
  cases ht : txt (m / 3600) 0 with
  | nil =>
    exfalso
    unfold txt at ht
    rw [if_neg (by omega)] at ht
    have := digs_pos (m / 3600).toNat
    rw [List.append_eq_nil_iff] at ht
    rw [ht.2] at this
    simp at this
  | cons c l =>
    rw [ht, List.all_cons, Bool.and_eq_true] at this
    exact ⟨c, _, rfl, this.1⟩
theorem clkS_ctxt {n : Int} (h : -345600 ≤ n ∧ n ≤ 345600) : clkS (ctxt n) = some n := by
  unfold ctxt clkS
  by_cases h3 : n < 0
  · obtain ⟨c, l, e, hc⟩ := ctail_head (m := -n) (by omega)
    rw [if_pos h3, if_neg (by rw [e]; simp), if_pos (show (45 :: ctail (-n)).head? = some 45 from rfl), List.tail_cons, ctail_parts (by omega)]
    show fin true (-n) = some n
    unfold fin
    rw [if_neg (by omega), if_pos rfl, Int.neg_neg]
  · obtain ⟨c, l, e, hc⟩ := ctail_head (m := n) (by omega)
    have hc' := (isDig_iff c).1 hc
    rw [if_neg h3, if_neg (by rw [e]; simp only [List.cons.injEq]; omega)]
    have hp := ctail_parts (m := n) (by omega)
    rw [if_neg (by rw [e]; simp only [List.head?_cons, Option.some.injEq]; omega), hp]
    show fin false n = some n
    unfold fin
    rw [if_neg (by omega), if_neg (by simp)]
theorem partsV_nonneg {p : List (List Int)} {v : Int} (h : partsV p = some v) : 0 ≤ v := by
  unfold partsV at h
  split at h
  · split at h
    · rename_i h1
      have := okh_val h1
      have := Option.some.inj h
      omega
    · cases h
  · split at h
    · rename_i h1
      have := okh_val h1.1
      have := okm_val h1.2
      have := Option.some.inj h
      omega
    · cases h
  · split at h
    · rename_i h1
      have := okh_val h1.1
      have := okm_val h1.2.1
      have := okm_val h1.2.2
      have := Option.some.inj h
      omega
    · cases h
  · cases h
theorem fin_bd {b : Bool} {o : Option Int} {v : Int} (h : o.bind (fin b) = some v) (ho : ∀ x, o = some x → 0 ≤ x) : -345600 ≤ v ∧ v ≤ 345600 := by
  cases o with
  | none => cases h
  | some x =>
    have hx := ho x rfl
    rw [bind_some_] at h
    unfold fin at h
    split at h
    · cases h
    · have := Option.some.inj h
      split at this <;> omega
theorem clkS_bd {l : List Int} {v : Int} (h : clkS l = some v) : -345600 ≤ v ∧ v ≤ 345600 := by
  unfold clkS at h
  split at h
  · have := Option.some.inj h
    omega
  · split at h
    · exact fin_bd h (fun x hx => partsV_nonneg hx)
    · exact fin_bd h (fun x hx => partsV_nonneg hx)

theorem clock_Split_eq (n : Int) (h : -9223372036854775808 ≤ n ∧ n ≤ 9223372036854775807) : clock_Split.f n = some (n / 86400, n % 86400) := by
  unfold clock_Split.f
  have := tdiv_wrap (a := n) (b := 86400) (by omega) h (by omega)
  rw [← this]
  split <;> rfl
def joinS (a b : Int) : Int × Bool := if Bd (a * 86400 + b) then (a * 86400 + b, true) else (0, false)
theorem clock_Join_eq (a b : Int) (ha : -9223372036854775808 ≤ a ∧ a ≤ 9223372036854775807) (hb : -9223372036854775808 ≤ b ∧ b ≤ 9223372036854775807) : clock_Join.F a b = some (joinS a b) := by
  rw [clock_Join.F_eq, clock_Split_eq b hb, bind_some_]
  dsimp only
  have hq : -106751991167301 ≤ b / 86400 ∧ b / 86400 ≤ 106751991167300 := by omega
  have hr : 0 ≤ b % 86400 ∧ b % 86400 < 86400 := by omega
  have hv : (a + b / 86400) * 86400 + b % 86400 = a * 86400 + b := by omega
  have key : ∀ s : Int, s = a + b / 86400 → (-9223372036854775808 ≤ s ∧ s ≤ 9223372036854775807) → clock_Join.J0 (b % 86400) s false = some (joinS a b) := by
    intro s hs hs1
    have e1 : Int.tdiv (4611686018427387904 - b % 86400) 86400 = (4611686018427387904 - b % 86400) / 86400 := Int.tdiv_eq_ediv_of_nonneg (by omega)
    have e2 : Int.tdiv (4611686018427387904 + b % 86400) 86400 = (4611686018427387904 + b % 86400) / 86400 := Int.tdiv_eq_ediv_of_nonneg (by omega)
    unfold joinS
    rw [clock_Join.J0_eq, if_neg (by simp), wrap64_id (n := 4611686018427387904 - b % 86400) (by omega) (by omega), wrap64_id (n := 4611686018427387904 + b % 86400) (by omega) (by omega), e1, e2]
    rw [wrap64_id (n := (4611686018427387904 - b % 86400) / 86400) (by omega) (by omega), wrap64_id (n := (4611686018427387904 + b % 86400) / 86400) (by omega) (by omega), wrap64_id (n := -((4611686018427387904 + b % 86400) / 86400)) (by omega) (by omega)]
    by_cases h : Bd (a * 86400 + b)
    · have h' := h
      unfold Bd at h'
      rw [if_pos h, if_neg (by omega), if_neg (by omega), wrap64_id (n := s * 86400) (by omega) (by omega), wrap64_id (by omega) (by omega)]
      congr 2
      omega
    · have h' := h
      unfold Bd at h'
      rw [if_neg h]
      by_cases h1 : s > (4611686018427387904 - b % 86400) / 86400
      · rw [if_pos h1]
      · rw [if_neg h1, if_pos (by omega)]
  have far : ¬ (-9223372036854775808 ≤ a + b / 86400 ∧ a + b / 86400 ≤ 9223372036854775807) → joinS a b = (0, false) := by
    intro h
    unfold joinS
    rw [if_neg (by unfold Bd; omega)]
  by_cases hs : -9223372036854775808 ≤ a + b / 86400 ∧ a + b / 86400 ≤ 9223372036854775807
  · rw [wrap64_id hs.1 hs.2]
    have k := key _ rfl hs
    by_cases h1 : ((decide (a ≥ 0)) == (decide (b / 86400 ≥ 0))) = true
    · rw [if_pos h1]
      have h2 : (decide (a + b / 86400 ≥ 0) != decide (a ≥ 0)) = false := by
        rw [beq_iff_eq, decide_eq_decide] at h1
        rw [bne_eq_false_iff_eq, decide_eq_decide]
        omega
      rw [h2]
      exact k
    · rw [if_neg h1]
      exact k
  · rw [far hs]
    have h1 : ((decide (a ≥ 0)) == (decide (b / 86400 ≥ 0))) = true := by
      rw [beq_iff_eq, decide_eq_decide]
      omega
    have h2 : (decide (wrap64 (a + b / 86400) ≥ 0) != decide (a ≥ 0)) = true := by
      rw [bne_iff_ne, Ne, decide_eq_decide]
      unfold wrap64
      omega
    rw [if_pos h1, h2, clock_Join.J0_eq, if_pos rfl]
theorem ref_JoinDay_eq (a b : Int) (ha : -9223372036854775808 ≤ a ∧ a ≤ 9223372036854775807) (hb : -9223372036854775808 ≤ b ∧ b ≤ 9223372036854775807) : solsticeref01_JoinDay.f a b = some (joinS a b) := by
  have hin : ∀ n lo hi : Int, solsticeref01_In.f n lo hi = some (decide (lo ≤ n ∧ n ≤ hi)) := by
    intro n lo hi
    unfold solsticeref01_In.f
    by_cases h : n ≥ lo
    · rw [if_pos h]
      have : lo ≤ n := h
      simp [this]
    · rw [if_neg h]
      have : ¬ lo ≤ n := h
      simp [this]
  have hq : -106751991167301 ≤ b / 86400 ∧ b / 86400 ≤ 106751991167300 := by omega
  have hr : 0 ≤ b % 86400 ∧ b % 86400 < 86400 := by omega
  have hv : (a + b / 86400) * 86400 + b % 86400 = a * 86400 + b := by omega
  unfold solsticeref01_JoinDay.f joinS
  rw [hin, bind_some_]
  by_cases h1 : -1125899906842624 ≤ a ∧ a ≤ 1125899906842624
  · rw [if_pos (decide_eq_true h1), ref_Div_eq b 86400 hb (by omega), bind_some_]
    dsimp only
    rw [wrap64_id (n := a + b / 86400) (by omega) (by omega), hin, bind_some_]
    by_cases h2 : -53375995583651 ≤ a + b / 86400 ∧ a + b / 86400 ≤ 53375995583650
    · rw [if_pos (decide_eq_true h2), wrap64_id (n := (a + b / 86400) * 86400) (by omega) (by omega), wrap64_id (by omega) (by omega), hv, ref_Bound_eq, bind_some_]
      by_cases h3 : Bd (a * 86400 + b)
      · rw [if_pos (decide_eq_true h3), if_pos h3]
      · rw [if_neg (by simpa using h3), if_neg h3]
    · rw [if_neg (by simpa using h2), if_neg (by unfold Bd; omega)]
  · rw [if_neg (by simpa using h1), if_neg (by unfold Bd; omega)]
theorem wakes04 : solsticelaw04_wakes.F = some true := by
  have c1 : clkS (bytesOf (⟨#[45, 49, 58, 51, 48]⟩ : ByteArray)) = some (-5400) := by decide +kernel
  have d1 : (1 : Nat) < 10 := by decide
  have t1 : ctxt 3661 = [49, 58, 48, 49, 58, 48, 49] := by
    have e : digs 1 = [49] := digs_small d1
    have e1 : txt 1 0 = [49] := by unfold txt; rw [if_neg (by decide), show (1 : Int).toNat = 1 from rfl, e]; rfl
    have e2 : txt 1 2 = [48, 49] := by unfold txt; rw [if_neg (by decide), show (1 : Int).toNat = 1 from rfl, e]; rfl
    unfold ctxt ctail
    rw [if_neg (by decide), show (3661 : Int) / 3600 = 1 by decide, show (3661 : Int) % 3600 / 60 = 1 by decide, show (3661 : Int) % 60 = 1 by decide, show (3661 : Int) % 3600 = 61 by decide, e1, e2]
    rfl
  have j1 : joinS 1 (-1) = (86399, true) := by decide
  rw [solsticelaw04_wakes.F_eq, clock_Parse_eq _ (by decide), bind_some_, clock_Text_eq _ (by omega), bind_some_, clock_Split_eq _ (by omega), bind_some_, clock_Join_eq _ _ (by omega) (by omega), bind_some_, c1, t1, j1]
  decide +kernel
end Go.Proofs.YtlfohcjajmebjaaDoor.Base
