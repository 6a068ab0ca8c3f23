/- The law ClockForms over numbers and lists: for every four whole numbers the law's printed function answers true. -/
import Derived.Test.YtlfohcjajmebjaaDoorClkB
import Derived.Test.YtlfohcjajmebjaaDoorEClkx3
namespace Go.Proofs.YtlfohcjajmebjaaDoor.Pure
open Go.RowKit Go.Proofs.YtlfohcjajmebjaaDoor.PClk Go.Proofs.YtlfohcjajmebjaaDoorW.PrintWords Go.Proofs.YtlfohcjajmebjaaDoorW.PrintLast Go.Proofs.YtlfohcjajmebjaaDoorW.PrintMore Go.Proofs.YtlfohcjajmebjaaDoor.Base
set_option linter.unusedVariables false
set_option linter.unusedSimpArgs false

theorem u64_mod_ (a : Int) (m : Int) (h : 0 < m) (hm : m ≤ 1000000000) : 0 ≤ wrap64 (Int.tmod (IntKind.u64.wrap a) m) ∧ wrap64 (Int.tmod (IntKind.u64.wrap a) m) < m := by
  have h2 : 0 ≤ IntKind.u64.wrap a := by unfold IntKind.wrap; simp [IntKind.signed, IntKind.bits]; omega
  have h3 := Int.emod_nonneg (IntKind.u64.wrap a) (show m ≠ 0 by omega)
  have h4 := Int.emod_lt_of_pos (IntKind.u64.wrap a) h
  rw [Int.tmod_eq_emod_of_nonneg h2, wrap64_id (by omega) (by omega)]
  exact ⟨h3, h4⟩
/-- Two digits. -/
def dd (n : Int) : List Int := [48 + n / 10, 48 + n % 10]
theorem dig_cut {q : Int} (h0 : 0 ≤ q) (h1 : q ≤ 9) : (⟨#[48, 49, 50, 51, 52, 53, 54, 55, 56, 57]⟩ : ByteArray).extract q.toNat (q + 1).toNat = strOfNums [48 + q] := by
  have hc : q = 0 ∨ q = 1 ∨ q = 2 ∨ q = 3 ∨ q = 4 ∨ q = 5 ∨ q = 6 ∨ q = 7 ∨ q = 8 ∨ q = 9 := by omega
  clear h0 h1
  rcases hc with rfl | rfl | rfl | rfl | rfl | rfl | rfl | rfl | rfl | rfl <;> decide +kernel
theorem dd_dig {n : Int} (h : 0 ≤ n ∧ n < 100) : (dd n).all isDig = true := by
  unfold dd isDig
  simp only [List.all_cons, List.all_nil, Bool.and_true, Bool.and_eq_true, decide_eq_true_eq]
  omega
theorem dd_val {n : Int} (h : 0 ≤ n ∧ n < 100) : val 0 (dd n) = n := by
  unfold dd
  simp only [val]
  omega
theorem dd_bytes {n : Int} (h : 0 ≤ n ∧ n < 100) : Bytes (dd n) := Bytes.cons (by omega) (by omega) (Bytes.cons (by omega) (by omega) Bytes.nil)
theorem dd_okh {n : Int} (h : 0 ≤ n ∧ n < 100) : okh (dd n) = true := okh_iff.2 ⟨by simp [dd], by simp [dd], dd_dig h⟩
theorem dd_okm {n : Int} (h : 0 ≤ n ∧ n < 60) : okm (dd n) = true := okm_iff.2 ⟨by simp [dd], dd_dig (by omega), by rw [dd_val (by omega)]; omega⟩
theorem dd_no {n : Int} (h : 0 ≤ n ∧ n < 100) : ∀ x ∈ dd n, x ≠ 58 := dig_no58 (dd_dig h)
theorem dd_head {n : Int} (h : 0 ≤ n ∧ n < 100) (T : List Int) : dd n ++ T ≠ [45] ∧ ¬ (dd n ++ T).head? = some 45 := by
  unfold dd
  refine ⟨fun e => ?_, fun e => ?_⟩
  · simp at e
  · simp at e; omega
theorem clk_plain {n : Int} (h : 0 ≤ n ∧ n < 100) (T : List Int) : clkS (dd n ++ T) = (partsV (spl 58 (dd n ++ T))).bind (fin false) := by
  obtain ⟨h1, h2⟩ := dd_head h T
  unfold clkS
  rw [if_neg h1, if_neg h2]
theorem fin_no {b : Bool} {v : Int} (h : v ≤ 345600) : fin b v = some (if b = true then -v else v) := by unfold fin; rw [if_neg (by omega)]
theorem f0 {h : Int} (hh : 0 ≤ h ∧ h < 96) : clkS (dd h) = some (3600 * h) := by
  have := clk_plain (n := h) (by omega) []
  rw [List.append_nil] at this
  rw [this, spl_no (dd_no (by omega)), partsV1, if_pos (dd_okh (by omega)), dd_val (by omega)]
  exact fin_no (by omega)
theorem f1 {h m : Int} (hh : 0 ≤ h ∧ h < 96) (hm : 0 ≤ m ∧ m < 60) : clkS (dd h ++ 58 :: dd m) = some (3600 * h + 60 * m) := by
  rw [clk_plain (n := h) (by omega), spl_hit (dd_no (by omega)), spl_no (dd_no (by omega)), partsV2, if_pos ⟨dd_okh (by omega), dd_okm hm⟩, dd_val (by omega), dd_val (by omega)]
  exact fin_no (by omega)
theorem f2 {h m x : Int} (hh : 0 ≤ h ∧ h < 96) (hm : 0 ≤ m ∧ m < 60) (hx : 0 ≤ x ∧ x < 60) : clkS (dd h ++ 58 :: (dd m ++ 58 :: dd x)) = some (3600 * h + 60 * m + x) := by
  rw [clk_plain (n := h) (by omega), spl_hit (dd_no (by omega)), spl_hit (dd_no (by omega)), spl_no (dd_no (by omega)), partsV3, if_pos ⟨dd_okh (by omega), dd_okm hm, dd_okm hx⟩, dd_val (by omega), dd_val (by omega), dd_val (by omega)]
  exact fin_no (by omega)
theorem f3 {h m : Int} (hh : 0 ≤ h ∧ h < 96) (hm : 0 ≤ m ∧ m < 60) : clkS (45 :: (dd h ++ 58 :: dd m)) = some (-(3600 * h + 60 * m)) := by
  unfold clkS
  rw [if_neg (by unfold dd; simp), List.head?_cons, if_pos rfl, List.tail_cons, spl_hit (dd_no (by omega)), spl_no (dd_no (by omega)), partsV2, if_pos ⟨dd_okh (by omega), dd_okm hm⟩, dd_val (by omega), dd_val (by omega)]
  exact fin_no (by omega)
theorem f5 {h m x : Int} (hh : 0 ≤ h ∧ h < 96) (hm : 0 ≤ m ∧ m < 60) (hx : 0 ≤ x ∧ x < 60) : clkS (dd h ++ 58 :: (dd m ++ 58 :: (dd x ++ 58 :: [48, 48]))) = none := by
  rw [clk_plain (n := h) (by omega), spl_hit (dd_no (by omega)), spl_hit (dd_no (by omega)), spl_hit (dd_no (by omega)), spl_no (by simp)]
  rfl
theorem f6 {h : Int} (hh : 0 ≤ h ∧ h < 96) : clkS (dd h ++ 58 :: [54, 48]) = none := by
  rw [clk_plain (n := h) (by omega), spl_hit (dd_no (by omega)), spl_no (by simp), partsV2, if_neg (fun h' => absurd h'.2 (by decide))]
  rfl
theorem f7 {h d : Int} (hh : 0 ≤ h ∧ h < 96) (hd : d ≠ 58) : clkS (dd h ++ 58 :: [d]) = none := by
  rw [clk_plain (n := h) (by omega), spl_hit (dd_no (by omega)), spl_no (by simpa using hd), partsV2, if_neg (fun h' => absurd (okm_iff.1 h'.2).1 (by simp))]
  rfl
theorem f8 : clkS [57, 55] = none := by decide +kernel
theorem f9 {h : Int} (hh : 0 ≤ h ∧ h < 96) : clkS (43 :: dd h) = none := by
  have hn : ∀ x ∈ 43 :: dd h, x ≠ 58 := by
    intro x hx
    rcases List.mem_cons.1 hx with rfl | hx
    · decide
    · exact dd_no (by omega) x hx
  unfold clkS
  rw [if_neg (by unfold dd; simp), if_neg (by simp), spl_no hn, partsV1, if_neg (fun h' => by
    have := (okh_iff.1 h').2.2
    rw [List.all_cons] at this
    simp [isDig] at this)]
  rfl
theorem J0_ok {l : List Int} {v : Int} (hb : Bytes l) (hl : l.length ≤ 100) (h : clkS l = some v) : solsticelaw04_ClockForms.J0 (strOfNums l) v true = some true := by
  rw [solsticelaw04_ClockForms.J0_eq, clock_Parse_eq _ (by rw [size_strOf]; omega), bind_some_, bytes_strOf hb, h]
  unfold enc0
  dsimp only
  rw [if_pos rfl, if_pos rfl, if_pos rfl, wakes04, bind_some_]
theorem J0_bad {l : List Int} (v : Int) (hb : Bytes l) (hl : l.length ≤ 100) (h : clkS l = none) : solsticelaw04_ClockForms.J0 (strOfNums l) v false = some true := by
  rw [solsticelaw04_ClockForms.J0_eq, clock_Parse_eq _ (by rw [size_strOf]; omega), bind_some_, bytes_strOf hb, h]
  unfold enc0
  dsimp only
  rw [if_neg (by simp), if_pos rfl, if_pos rfl, wakes04, bind_some_]
theorem dd_len (n : Int) : (dd n).length = 2 := rfl
theorem tens {n : Int} (h : 0 ≤ n ∧ n < 100) : wrap64 (Int.tdiv n 10) = n / 10 ∧ Int.tmod n 10 = n % 10 ∧ wrap64 (n / 10 + 1) = n / 10 + 1 ∧ wrap64 (n % 10 + 1) = n % 10 + 1 := by
  have e : Int.tdiv n 10 = n / 10 := Int.tdiv_eq_ediv_of_nonneg (by omega)
  refine ⟨by rw [e, wrap64_id (by omega) (by omega)], Int.tmod_eq_emod_of_nonneg (by omega), wrap64_id (by omega) (by omega), wrap64_id (by omega) (by omega)⟩
theorem dd_str (n : Int) : strOfNums [48 + n / 10] ++ strOfNums [48 + n % 10] = strOfNums (dd n) := strOf_append
theorem ClockForms_F (a b c d : Int) : solsticelaw04_ClockForms.F a b c d = some true := by
  obtain ⟨h0, h1⟩ := u64_mod_ a 96 (by omega) (by omega)
  obtain ⟨m0, m1⟩ := u64_mod_ b 60 (by omega) (by omega)
  obtain ⟨x0, x1⟩ := u64_mod_ c 60 (by omega) (by omega)
  have w01 : 0 ≤ Int.tmod (IntKind.u64.wrap d) 10 ∧ Int.tmod (IntKind.u64.wrap d) 10 < 10 := by
    have h2 : 0 ≤ IntKind.u64.wrap d := by unfold IntKind.wrap; simp [IntKind.signed, IntKind.bits]; omega
    rw [Int.tmod_eq_emod_of_nonneg h2]
    omega
  rw [solsticelaw04_ClockForms.F_eq]
  generalize wrap64 (Int.tmod (IntKind.u64.wrap a) 96) = h at *
  generalize wrap64 (Int.tmod (IntKind.u64.wrap b) 60) = m at *
  generalize wrap64 (Int.tmod (IntKind.u64.wrap c) 60) = x at *
  generalize Int.tmod (IntKind.u64.wrap d) 10 = w at *
  obtain ⟨p1, p2, p3, p4⟩ := tens (n := h) (by omega)
  obtain ⟨q1, q2, q3, q4⟩ := tens (n := m) (by omega)
  obtain ⟨r1, r2, r3, r4⟩ := tens (n := x) (by omega)
  rw [p1, p2, p3, p4, q1, q2, q3, q4, r1, r2, r3, r4]
  rw [dig_cut (q := h / 10) (by omega) (by omega), dig_cut (q := h % 10) (by omega) (by omega), dig_cut (q := m / 10) (by omega) (by omega), dig_cut (q := m % 10) (by omega) (by omega), dig_cut (q := x / 10) (by omega) (by omega), dig_cut (q := x % 10) (by omega) (by omega), dd_str h, dd_str m, dd_str x]
  have sz : ∀ y z : Int, (strOfNums [y]).size + (strOfNums [z]).size ≤ 9223372036854775807 := fun y z => by
    rw [size_strOf, size_strOf]
    show 1 + 1 ≤ 9223372036854775807
    omega
  rw [if_pos (by omega), if_pos (by omega), if_pos (by omega), if_pos (by omega), if_pos (by omega), if_pos (by omega), if_pos (sz _ _), if_pos (by omega), if_pos (by omega), if_pos (by omega), if_pos (by omega), if_pos (by omega), if_pos (by omega), if_pos (sz _ _), if_pos (by omega), if_pos (by omega), if_pos (by omega), if_pos (by omega), if_pos (by omega), if_pos (by omega), if_pos (sz _ _)]
  have e58 : (⟨#[58]⟩ : ByteArray) = strOfNums [58] := rfl
  have e45 : (⟨#[45]⟩ : ByteArray) = strOfNums [45] := rfl
  have e43 : (⟨#[43]⟩ : ByteArray) = strOfNums [43] := rfl
  have e00 : (⟨#[58, 48, 48]⟩ : ByteArray) = strOfNums [58, 48, 48] := rfl
  have e60 : (⟨#[58, 54, 48]⟩ : ByteArray) = strOfNums [58, 54, 48] := rfl
  have e97 : (⟨#[57, 55]⟩ : ByteArray) = strOfNums [57, 55] := rfl
  have em : (strOfNums (dd m)).extract 1 (strOfNums (dd m)).size = strOfNums [48 + m % 10] := by
    apply bytes_inj
    rw [extract_all, bytes_strOf (dd_bytes (by omega)), bytes_strOf (Bytes.cons (by omega) (by omega) Bytes.nil)]
    rfl
  have bh := dd_bytes (n := h) (by omega)
  have bm := dd_bytes (n := m) (by omega)
  have bx := dd_bytes (n := x) (by omega)
  have b58 : ∀ {l : List Int}, Bytes l → Bytes (58 :: l) := fun hb => Bytes.cons (by omega) (by omega) hb
  have sg : ∀ l : List Int, l.length ≤ 100 → ∀ k : Nat, k ≤ 1000 → (strOfNums l).size + k ≤ 9223372036854775807 := fun l hl k hk => by rw [size_strOf]; omega
  have w1 : wrap64 (3600 * h) = 3600 * h := wrap64_id (by omega) (by omega)
  have w2 : wrap64 (60 * m) = 60 * m := wrap64_id (by omega) (by omega)
  have w3 : wrap64 (3600 * h + 60 * m) = 3600 * h + 60 * m := wrap64_id (by omega) (by omega)
  have w4 : wrap64 (3600 * h + 60 * m + x) = 3600 * h + 60 * m + x := wrap64_id (by omega) (by omega)
  have w5 : wrap64 (-3600 * h) = -3600 * h := wrap64_id (by omega) (by omega)
  have w6 : wrap64 (-3600 * h - 60 * m) = -(3600 * h + 60 * m) := by rw [wrap64_id (by omega) (by omega)]; omega
  rw [w1, w2, w3, w4, w5, w6, em, e58, e45, e43, e00, e60, e97]
  simp only [strOf_append, size_strOf, List.length_append, List.length_cons, List.length_nil, dd_len]
  have hc : w = 0 ∨ w = 1 ∨ w = 2 ∨ w = 3 ∨ w = 4 ∨ w = 5 ∨ w = 6 ∨ w = 7 ∨ w = 8 ∨ w = 9 := by omega
  have g0 := J0_ok bh (by rw [dd_len]; omega) (f0 (h := h) (by omega))
  have g1 := J0_ok (l := dd h ++ [58] ++ dd m) (v := 3600 * h + 60 * m) (Bytes.app (Bytes.app bh (b58 Bytes.nil)) bm) (by simp only [List.length_append, List.length_cons, List.length_nil, dd_len]; omega) (by rw [List.append_assoc]; exact f1 (by omega) (by omega))
  have g2 := J0_ok (l := dd h ++ [58] ++ dd m ++ [58] ++ dd x) (v := 3600 * h + 60 * m + x) (Bytes.app (Bytes.app (Bytes.app (Bytes.app bh (b58 Bytes.nil)) bm) (b58 Bytes.nil)) bx) (by simp only [List.length_append, List.length_cons, List.length_nil, dd_len]; omega) (by rw [List.append_assoc, List.append_assoc, List.append_assoc]; exact f2 (by omega) (by omega) (by omega))
  have g3 := J0_ok (l := [45] ++ dd h ++ [58] ++ dd m) (v := -(3600 * h + 60 * m)) (Bytes.app (Bytes.app (Bytes.app (Bytes.cons (by omega) (by omega) Bytes.nil) bh) (b58 Bytes.nil)) bm) (by simp only [List.length_append, List.length_cons, List.length_nil, dd_len]; omega) (by rw [List.append_assoc, List.append_assoc]; exact f3 (by omega) (by omega))
  have g4 := J0_ok (l := [45]) (v := 0) (Bytes.cons (by omega) (by omega) Bytes.nil) (by simp) rfl
  have g5 := J0_bad (l := dd h ++ [58] ++ dd m ++ [58] ++ dd x ++ [58, 48, 48]) (3600 * h) (Bytes.app (Bytes.app (Bytes.app (Bytes.app (Bytes.app bh (b58 Bytes.nil)) bm) (b58 Bytes.nil)) bx) (b58 (Bytes.cons (by omega) (by omega) (Bytes.cons (by omega) (by omega) Bytes.nil)))) (by simp only [List.length_append, List.length_cons, List.length_nil, dd_len]; omega) (by
    rw [List.append_assoc, List.append_assoc, List.append_assoc, List.append_assoc]
    exact f5 (by omega) (by omega) (by omega))
  have g6 := J0_bad (l := dd h ++ [58, 54, 48]) (3600 * h) (Bytes.app bh (b58 (Bytes.cons (by omega) (by omega) (Bytes.cons (by omega) (by omega) Bytes.nil)))) (by simp only [List.length_append, List.length_cons, List.length_nil, dd_len]; omega) (f6 (by omega))
  have g7 := J0_bad (l := dd h ++ [58] ++ [48 + m % 10]) (3600 * h) (Bytes.app (Bytes.app bh (b58 Bytes.nil)) (Bytes.cons (by omega) (by omega) Bytes.nil)) (by simp only [List.length_append, List.length_cons, List.length_nil, dd_len]; omega) (by rw [List.append_assoc]; exact f7 (by omega) (by omega))
  have g8 := J0_bad (l := [57, 55]) (3600 * h) (Bytes.cons (by omega) (by omega) (Bytes.cons (by omega) (by omega) Bytes.nil)) (by simp) f8
  have g9 := J0_bad (l := [43] ++ dd h) (3600 * h) (Bytes.app (Bytes.cons (by omega) (by omega) Bytes.nil) bh) (by simp only [List.length_append, List.length_cons, List.length_nil, dd_len]; omega) (f9 (by omega))
  rw [g0, g1, g2, g3, g4, g5, g6, g7, g8, g9]
  rcases hc with rfl | rfl | rfl | rfl | rfl | rfl | rfl | rfl | rfl | rfl <;> simp
theorem ClockForms : solsticelaw04_ClockForms.Pure := by
  intro a b c d _ _ _ _
  exact lim_some (ClockForms_F a b c d)
end Go.Proofs.YtlfohcjajmebjaaDoor.Pure
