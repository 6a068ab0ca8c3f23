/- A time's text, its day and seconds, both joined: what the printed functions compute; what is written is read. No condition. -/
import Derived.Test.YtlfohcjajmebjaaDoorClkNumP
import Derived.Test.YtlfohcjajmebjaaDoorClkNumX
import Derived.Test.YtlfohcjajmebjaaDoorClkRefT
import Derived.Lib.SplitLaws
import Derived.Lib.IndexLaws
import Derived.Lib.Strings
import Derived.Test.YtlfohcjajmebjaaDoorEClkx2
import Derived.Test.YtlfohcjajmebjaaDoorEClkx7
import Derived.Test.YtlfohcjajmebjaaDoorEClkx3
import Derived.Test.YtlfohcjajmebjaaDoorEClkx5
import Derived.Test.YtlfohcjajmebjaaDoorEClkx8
import Derived.Test.YtlfohcjajmebjaaDoorPClkx8
import Derived.Test.YtlfohcjajmebjaaDoorPClkx5
/- What a time's text says (clock.Parse, the page's Clock), over numbers and lists: parts between colons, their numbers. No condition. -/
namespace Go.Proofs.YtlfohcjajmebjaaDoor.Base
open Go.RowKit Go.Proofs.YtlfohcjajmebjaaDoor.PClk Go.Proofs.YtlfohcjajmebjaaDoorW.PrintWords Go.Proofs.YtlfohcjajmebjaaDoorW.PrintLast Go.Proofs.YtlfohcjajmebjaaDoorW.PrintMore
set_option linter.unusedVariables false
set_option linter.unusedSimpArgs false

/-- A text's parts between the signs c. -/
def spl (c : Int) : List Int → List (List Int)
  | [] => [[]]
  | x :: l => if x = c then [] :: spl c l else match spl c l with | [] => [[x]] | y :: ys => (x :: y) :: ys
theorem spl_no {c : Int} : ∀ {l : List Int}, (∀ x ∈ l, x ≠ c) → spl c l = [l]
  | [], _ => rfl
  | x :: l, h => by
    rw [spl, if_neg (h x (List.mem_cons_self ..)), spl_no (fun y hy => h y (List.mem_cons_of_mem _ hy))]
theorem spl_hit {c : Int} {b : List Int} : ∀ {a : List Int}, (∀ x ∈ a, x ≠ c) → spl c (a ++ c :: b) = a :: spl c b
  | [], _ => by rw [List.nil_append, spl, if_pos rfl]
  | x :: a, h => by
    rw [List.cons_append, spl, if_neg (h x (List.mem_cons_self ..)), spl_hit (fun y hy => h y (List.mem_cons_of_mem _ hy))]
theorem spl_ne (c : Int) : ∀ l : List Int, spl c l ≠ []
  | [] => by simp [spl]
  | x :: l => by
    rw [spl]
    split
    · simp
    · split <;> simp
theorem spl_bytes {c : Int} : ∀ {l : List Int}, Bytes l → ∀ y ∈ spl c l, Bytes y
  | [], _, y, hy => by
    rw [spl, List.mem_singleton] at hy
    rw [hy]
    exact Bytes.nil
  | x :: l, h, y, hy => by
    have ih := spl_bytes (c := c) h.tail
    rw [spl] at hy
    split at hy
    · rcases List.mem_cons.1 hy with rfl | hy
      · exact Bytes.nil
      · exact ih y hy
    · split at hy
      · rw [List.mem_singleton] at hy
        rw [hy]
        exact Bytes.cons h.head.1 h.head.2 Bytes.nil
      · rename_i z zs hz
        rcases List.mem_cons.1 hy with rfl | hy
        · exact Bytes.cons h.head.1 h.head.2 (ih z (by rw [hz]; exact List.mem_cons_self ..))
        · exact ih y (by rw [hz]; exact List.mem_cons_of_mem _ hy)
theorem split_spl (c : UInt8) : ∀ (k : Nat) (s : ByteArray), Lib.countB s ⟨#[c]⟩ = k → Lib.splitB ⟨#[c]⟩ 0 k s = (spl (c.toNat : Int) (bytesOf s)).map strOfNums := by
  have hsz : (⟨#[c]⟩ : ByteArray).size = 1 := rfl
  have h1 : 1 ≤ (⟨#[c]⟩ : ByteArray).size := by rw [hsz]; exact Nat.le_refl _
  have hix : ∀ s : ByteArray, Lib.indexB s ⟨#[c]⟩ = Lib.indexByte s.data.toList c := fun s => Lib.index_one _ _
  have hne : ∀ b : UInt8, b ≠ c → (b.toNat : Int) ≠ (c.toNat : Int) := fun b hb h => hb (UInt8.toNat_inj.1 (by omega))
  have miss : ∀ s : ByteArray, Lib.indexB s ⟨#[c]⟩ = -1 → spl (c.toNat : Int) (bytesOf s) = [bytesOf s] := by
    intro s h
    rw [hix] at h
    refine spl_no fun x hx => ?_
    unfold bytesOf at hx
    obtain ⟨b, hb, rfl⟩ := List.mem_map.1 hx
    refine hne b fun e => ?_
    subst e
    obtain ⟨j, hj, e⟩ := List.getElem_of_mem hb
    exact Lib.indexByte_none h j (by rw [List.getElem?_eq_getElem hj, e])
  intro k
  induction k with
  | zero =>
    intro s hk
    rcases Lib.indexB_cases s ⟨#[c]⟩ with hi | ⟨i, hi, _⟩
    · rw [Lib.splitB_zero, miss s hi, List.map_cons, List.map_nil, strOf_bytes]
    · have := Lib.countB_hit s ⟨#[c]⟩ i h1 hi
      omega
  | succ k ih =>
    intro s hk
    rcases Lib.indexB_cases s ⟨#[c]⟩ with hi | ⟨i, hi, hroom⟩
    · rw [Lib.countB_miss s _ hi] at hk
      omega
    · have hc := Lib.countB_hit s ⟨#[c]⟩ i h1 hi
      rw [Lib.splitB_hit _ _ _ _ i hi, ih _ (by omega)]
      have hi' := hi
      rw [hix] at hi'
      obtain ⟨g1, g2⟩ := Lib.indexByte_some hi'
      have hlen : i < s.data.toList.length := (List.getElem?_eq_some_iff.1 g1).1
      have hl : i < (s.data.toList.map (fun b : UInt8 => (b.toNat : Int))).length := by rw [List.length_map]; exact hlen
      have e1 : (s.data.toList.map (fun b : UInt8 => (b.toNat : Int)))[i]'hl = (c.toNat : Int) := by
        rw [List.getElem_map]
        rw [List.getElem?_eq_getElem hlen] at g1
        rw [Option.some.inj g1]
      have e : bytesOf s = (bytesOf s).take i ++ (c.toNat : Int) :: (bytesOf s).drop (i + 1) := by
        show s.data.toList.map (fun b : UInt8 => (b.toNat : Int)) = (s.data.toList.map (fun b : UInt8 => (b.toNat : Int))).take i ++ (c.toNat : Int) :: (s.data.toList.map (fun b : UInt8 => (b.toNat : Int))).drop (i + 1)
        rw [← e1, List.getElem_cons_drop, List.take_append_drop]
      have hno : ∀ x ∈ (bytesOf s).take i, x ≠ (c.toNat : Int) := by
        intro x hx
        have hx' : x ∈ (s.data.toList.take i).map (fun b : UInt8 => (b.toNat : Int)) := by rw [List.map_take]; exact hx
        obtain ⟨b, hb, rfl⟩ := List.mem_map.1 hx'
        refine hne _ fun e' => ?_
        subst e'
        obtain ⟨j, hj, ex⟩ := List.getElem_of_mem hb
        rw [List.getElem_take] at ex
        rw [List.length_take] at hj
        refine g2 j (by omega) ?_
        have hjl : j < s.data.toList.length := by omega
        rw [List.getElem?_eq_getElem hjl, ex]
      have e2 : bytesOf (s.extract (i + (⟨#[c]⟩ : ByteArray).size) s.size) = (bytesOf s).drop (i + 1) := by rw [hsz, extract_all]
      have e3 : s.extract 0 (i + 0) = strOfNums ((bytesOf s).take i) := bytes_inj (by rw [bytes_extract, bytes_strOf (fun x hx => bytes_of s x (List.mem_of_mem_take hx))]; rfl)
      rw [e2, e3]
      conv => rhs; rw [e, spl_hit hno]
      rw [List.map_cons]
theorem split_f_eq {s : ByteArray} (c : UInt8) (hs : s.size < 4294967281) : strings_Split.f s ⟨#[c]⟩ = some ((spl (c.toNat : Int) (bytesOf s)).map strOfNums) := by
  have h1 : 1 ≤ (⟨#[c]⟩ : ByteArray).size := Nat.le_refl 1
  have hle := Lib.countB_le ⟨#[c]⟩ h1 s.size s (Nat.le_refl _)
  unfold strings_Split.f
  rw [if_pos ⟨hs, h1, Lib.splitB_all _ h1 0 _ s rfl, by omega⟩, split_spl c _ s rfl]

/-! A time's parts -/
def okh (a : List Int) : Bool := decide (1 ≤ a.length) && decide (a.length ≤ 3) && a.all isDig
def okm (a : List Int) : Bool := decide (a.length = 2) && a.all isDig && decide (val 0 a < 60)
theorem okh_iff {a : List Int} : okh a = true ↔ 1 ≤ a.length ∧ a.length ≤ 3 ∧ a.all isDig = true := by unfold okh; simp [and_assoc]
theorem okm_iff {a : List Int} : okm a = true ↔ a.length = 2 ∧ a.all isDig = true ∧ val 0 a < 60 := by unfold okm; simp [and_assoc]
theorem val_lt {a : List Int} {k : Nat} (h : a.all isDig = true) (hl : a.length ≤ k) : 0 ≤ val 0 a ∧ val 0 a < (10 : Int) ^ k := by
  have := val_range a 0 0 h (by omega) (by decide)
  rw [Nat.zero_add] at this
  refine ⟨this.1, Int.lt_of_lt_of_le this.2 ?_⟩
  have : (10 : Nat) ^ a.length ≤ 10 ^ k := Nat.pow_le_pow_right (by omega) hl
  exact_mod_cast this
theorem okh_val {a : List Int} (h : okh a = true) : 0 ≤ val 0 a ∧ val 0 a < 1000 := by
  have h' := okh_iff.1 h
  exact val_lt (k := 3) h'.2.2 h'.2.1
theorem okm_val {a : List Int} (h : okm a = true) : 0 ≤ val 0 a ∧ val 0 a < 60 := by
  have h' := okm_iff.1 h
  exact ⟨(val_lt (k := 2) h'.2.1 (by omega)).1, h'.2.2⟩
def partsV : List (List Int) → Option Int
  | [a] => if okh a = true then some (3600 * val 0 a) else none
  | [a, b] => if okh a = true ∧ okm b = true then some (3600 * val 0 a + 60 * val 0 b) else none
  | [a, b, c] => if okh a = true ∧ okm b = true ∧ okm c = true then some (3600 * val 0 a + 60 * val 0 b + val 0 c) else none
  | _ => none
theorem partsV1 (a : List Int) : partsV [a] = if okh a = true then some (3600 * val 0 a) else none := rfl
theorem partsV2 (a b : List Int) : partsV [a, b] = if okh a = true ∧ okm b = true then some (3600 * val 0 a + 60 * val 0 b) else none := rfl
theorem partsV3 (a b c : List Int) : partsV [a, b, c] = if okh a = true ∧ okm b = true ∧ okm c = true then some (3600 * val 0 a + 60 * val 0 b + val 0 c) else none := rfl
def fin (b : Bool) (v : Int) : Option Int := if v > 345600 then none else some (if b = true then -v else v)
def clkS (l : List Int) : Option Int := if l = [45] then some 0 else if l.head? = some 45 then (partsV (spl 58 l.tail)).bind (fin true) else (partsV (spl 58 l)).bind (fin false)
def enc0 : Option Int → Int × Int
  | some v => (v, 0)
  | none => (0, 5)
def encB : Option Int → Int × Bool
  | some v => (v, true)
  | none => (0, false)

theorem part_h {s : ByteArray} {a : List Int} (e : bytesOf s = a) : clock_part.F s 0 = some ((parsS a).1, okh a) ∧ (okh a = true → (parsS a).1 = val 0 a) := by
  have hz := size_len s
  rw [e] at hz
  rw [clock_part.F_eq, num_Parse_eq, bind_some_, if_pos rfl, e]
  unfold parsS
  by_cases h : 1 ≤ a.length ∧ a.length ≤ 18 ∧ a.all isDig = true
  · rw [if_pos h]
    refine ⟨?_, fun _ => rfl⟩
    dsimp only
    rw [if_pos rfl]
    congr 2
    unfold okh
    rw [decide_eq_true h.1, h.2.2, Bool.true_and, Bool.and_true]
    congr 1
    exact propext ⟨fun h => by omega, fun h => by omega⟩
  · rw [if_neg h]
    have hno : okh a = false := by
      cases ho : okh a with
      | false => rfl
      | true => exact absurd ⟨(okh_iff.1 ho).1, by have := (okh_iff.1 ho).2.1; omega, (okh_iff.1 ho).2.2⟩ h
    rw [hno]
    exact ⟨by dsimp only; rw [if_neg (by simp)], fun h => by simp at h⟩
theorem part_m {s : ByteArray} {a : List Int} (i : Int) (hi : i ≠ 0) (e : bytesOf s = a) : clock_part.F s i = some ((parsS a).1, okm a) ∧ (okm a = true → (parsS a).1 = val 0 a) := by
  have hz := size_len s
  rw [e] at hz
  rw [clock_part.F_eq, num_Parse_eq, bind_some_, if_neg hi, e]
  unfold parsS
  by_cases h : 1 ≤ a.length ∧ a.length ≤ 18 ∧ a.all isDig = true
  · rw [if_pos h]
    refine ⟨?_, fun _ => rfl⟩
    dsimp only
    rw [if_pos rfl]
    by_cases h2 : (s.size : Int) = 2
    · rw [if_pos h2]
      congr 2
      unfold okm
      rw [decide_eq_true (show a.length = 2 by omega), h.2.2, Bool.true_and, Bool.true_and]
    · rw [if_neg h2]
      congr 2
      unfold okm
      rw [decide_eq_false (show ¬ a.length = 2 by omega), Bool.false_and, Bool.false_and]
  · rw [if_neg h]
    have hno : okm a = false := by
      cases ho : okm a with
      | false => rfl
      | true => exact absurd ⟨by have := (okm_iff.1 ho).1; omega, by have := (okm_iff.1 ho).1; omega, (okm_iff.1 ho).2.1⟩ h
    rw [hno]
    exact ⟨by dsimp only; rw [if_neg (by simp)], fun h => by simp at h⟩
theorem clk_fin (b : Bool) (s p : Int) (P : List ByteArray) (hs : 0 ≤ s ∧ s ≤ 100000000) : clock_Parse.L0 b s p P (P.length : Int) (P.length : Int) = some (enc0 (fin b s)) := by
  rw [clock_Parse.L0_eq, if_neg (by omega)]
  unfold fin
  by_cases h : s > 345600
  · rw [if_pos h, if_pos h]; rfl
  · rw [if_neg h, if_neg h]
    cases b with
    | true => rw [if_pos rfl, wrap64_id (by omega) (by omega)]; rfl
    | false => rw [if_neg (by simp)]; rfl
theorem clk_0 (b : Bool) (P : List ByteArray) (a : List Int) (hP : 0 < P.length) (e : bytesOf (rdOf ByteArray.empty P 0) = a) : clock_Parse.L0 b 0 3600 P (P.length : Int) 0 = if okh a = true then clock_Parse.L0 b (3600 * val 0 a) 60 P (P.length : Int) 1 else some (0, 5) := by
  rw [clock_Parse.L0_eq, if_pos (by omega), if_pos (by omega), if_pos (by omega), (part_h e).1, bind_some_]
  dsimp only
  by_cases h : okh a = true
  · have hv := okh_val h
    rw [if_pos h, if_pos h, (part_h e).2 h, wrap64_id (n := val 0 a * 3600) (by omega) (by omega), wrap64_id (n := 0 + val 0 a * 3600) (by omega) (by omega)]
    rw [show 0 + val 0 a * 3600 = 3600 * val 0 a by omega, show wrap64 (Int.tdiv 3600 60) = 60 by decide +kernel, show wrap64 (0 + 1) = 1 by decide +kernel]
  · rw [if_neg h, if_neg h]
theorem clk_1 (b : Bool) (s : Int) (P : List ByteArray) (a : List Int) (hs : 0 ≤ s ∧ s ≤ 10000000) (hP : 1 < P.length) (e : bytesOf (rdOf ByteArray.empty P 1) = a) : clock_Parse.L0 b s 60 P (P.length : Int) 1 = if okm a = true then clock_Parse.L0 b (s + 60 * val 0 a) 1 P (P.length : Int) 2 else some (0, 5) := by
  have hp := part_m 1 (by omega) e
  rw [clock_Parse.L0_eq, if_pos (by omega), if_pos (by omega), if_pos (by omega), hp.1, bind_some_]
  dsimp only
  by_cases h : okm a = true
  · have hv := okm_val h
    rw [if_pos h, if_pos h, hp.2 h, wrap64_id (n := val 0 a * 60) (by omega) (by omega), wrap64_id (n := s + val 0 a * 60) (by omega) (by omega)]
    rw [show s + val 0 a * 60 = s + 60 * val 0 a by omega, show wrap64 (Int.tdiv 60 60) = 1 by decide +kernel, show wrap64 (1 + 1) = 2 by decide +kernel]
  · rw [if_neg h, if_neg h]
theorem clk_2 (b : Bool) (s : Int) (P : List ByteArray) (a : List Int) (hs : 0 ≤ s ∧ s ≤ 10000000) (hP : 2 < P.length) (e : bytesOf (rdOf ByteArray.empty P 2) = a) : clock_Parse.L0 b s 1 P (P.length : Int) 2 = if okm a = true then clock_Parse.L0 b (s + val 0 a) 0 P (P.length : Int) 3 else some (0, 5) := by
  have hp := part_m 2 (by omega) e
  rw [clock_Parse.L0_eq, if_pos (by omega), if_pos (by omega), if_pos (by omega), hp.1, bind_some_]
  dsimp only
  by_cases h : okm a = true
  · have hv := okm_val h
    rw [if_pos h, if_pos h, hp.2 h, wrap64_id (n := val 0 a * 1) (by omega) (by omega), wrap64_id (n := s + val 0 a * 1) (by omega) (by omega)]
    rw [show s + val 0 a * 1 = s + val 0 a by omega, show wrap64 (Int.tdiv 1 60) = 0 by decide +kernel, show wrap64 (2 + 1) = 3 by decide +kernel]
  · rw [if_neg h, if_neg h]
theorem clk_parts (b : Bool) (p : List (List Int)) (hp : ∀ y ∈ p, Bytes y) (h0 : p ≠ []) : (if ((p.map strOfNums).length : Int) > 3 then (some ((0 : Int), (5 : Int))) else (clock_Parse.L0 b 0 3600 (p.map strOfNums) ((p.map strOfNums).length : Int) 0)) = some (enc0 ((partsV p).bind (fin b))) := by
  match p, hp, h0 with
  | [], _, h => exact absurd rfl h
  | [a], hp, _ =>
    have ea : bytesOf (strOfNums a) = a := bytes_strOf (hp a (by simp))
    rw [if_neg (by simp), clk_0 b ([a].map strOfNums) a (by simp) ea]
    rw [partsV1]
    by_cases h : okh a = true
    · have hv := okh_val h
      rw [if_pos h, if_pos h]
      exact clk_fin b _ _ [strOfNums a] (by omega)
    · rw [if_neg h, if_neg h]; rfl
  | [a, c], hp, _ =>
    have ea : bytesOf (strOfNums a) = a := bytes_strOf (hp a (by simp))
    have ec : bytesOf (strOfNums c) = c := bytes_strOf (hp c (by simp))
    rw [if_neg (by simp), clk_0 b ([a, c].map strOfNums) a (by simp) ea]
    rw [partsV2]
    by_cases h : okh a = true
    · have hv := okh_val h
      rw [if_pos h, clk_1 b _ ([a, c].map strOfNums) c (by omega) (by simp) ec]
      by_cases h2 : okm c = true
      · have hv2 := okm_val h2
        rw [if_pos h2, if_pos ⟨h, h2⟩]
        exact clk_fin b _ _ [strOfNums a, strOfNums c] (by omega)
      · rw [if_neg h2, if_neg (fun h' => h2 h'.2)]; rfl
    · rw [if_neg h, if_neg (fun h' => h h'.1)]; rfl
  | [a, c, d], hp, _ =>
    have ea : bytesOf (strOfNums a) = a := bytes_strOf (hp a (by simp))
    have ec : bytesOf (strOfNums c) = c := bytes_strOf (hp c (by simp))
    have ed : bytesOf (strOfNums d) = d := bytes_strOf (hp d (by simp))
    rw [if_neg (by simp), clk_0 b ([a, c, d].map strOfNums) a (by simp) ea]
    rw [partsV3]
    by_cases h : okh a = true
    · have hv := okh_val h
      rw [if_pos h, clk_1 b _ ([a, c, d].map strOfNums) c (by omega) (by simp) ec]
      by_cases h2 : okm c = true
      · have hv2 := okm_val h2
        rw [if_pos h2, clk_2 b _ ([a, c, d].map strOfNums) d (by omega) (by simp) ed]
        by_cases h3 : okm d = true
        · have hv3 := okm_val h3
          rw [if_pos h3, if_pos ⟨h, h2, h3⟩]
          exact clk_fin b _ _ [strOfNums a, strOfNums c, strOfNums d] (by omega)
        · rw [if_neg h3, if_neg (fun h' => h3 h'.2.2)]; rfl
      · rw [if_neg h2, if_neg (fun h' => h2 h'.2.1)]; rfl
    · rw [if_neg h, if_neg (fun h' => h h'.1)]; rfl
  | a :: c :: d :: f :: r, _, _ =>
    rw [if_pos (by simp only [List.map_cons, List.length_cons]; omega)]
    rfl
theorem is_dash {s : ByteArray} : s.toList = ([45] : List UInt8) ↔ bytesOf s = [45] := by
  have e : ([45] : List UInt8) = (⟨#[45]⟩ : ByteArray).toList := by rw [ByteArray.toList_eq]
  rw [e, toList_iff]
  constructor
  · rintro rfl; rfl
  · intro h; exact bytes_inj h
theorem cut_dash (s : ByteArray) : ∃ t b, strings_CutPrefix.f s (⟨#[45]⟩ : ByteArray) = some (t, b) ∧ t.size ≤ s.size ∧ ((∃ r, bytesOf s = 45 :: r ∧ b = true ∧ bytesOf t = r) ∨ ((∀ r, bytesOf s ≠ 45 :: r) ∧ b = false ∧ t = s)) := by
  unfold strings_CutPrefix.f Lib.trimPrefix Lib.hasPrefix
  have e : (⟨#[45]⟩ : ByteArray).data.toList = [45] := rfl
  rw [e]
  cases hl : s.data.toList with
  | nil =>
    refine ⟨s, false, ?_, Nat.le_refl _, Or.inr ⟨fun r h => ?_, rfl, rfl⟩⟩
    · rw [if_neg (by simp)]
      congr 2
      exact ba_ext hl.symm
    · unfold bytesOf at h
      rw [hl] at h
      simp at h
  | cons c r =>
    by_cases hc : c = 45
    · subst hc
      refine ⟨⟨r.toArray⟩, true, ?_, ?_, Or.inl ⟨r.map (fun b => (b.toNat : Int)), ?_, rfl, rfl⟩⟩
      · have hp : ([45] : List UInt8).isPrefixOf (45 :: r) = true := List.isPrefixOf_iff_prefix.2 ⟨r, rfl⟩
        rw [hp, if_pos rfl]
        rfl
      · have h1 : (⟨r.toArray⟩ : ByteArray).size = r.length := List.size_toArray ..
        have h2 : s.size = s.data.toList.length := by rw [Array.length_toList]; rfl
        rw [h1, h2, hl, List.length_cons]
        omega
      · unfold bytesOf
        rw [hl]
        rfl
    · have hc' : ([45] : List UInt8).isPrefixOf (c :: r) = false := by
        simp only [List.isPrefixOf, Bool.and_eq_false_iff]
        left
        exact beq_eq_false_iff_ne.2 (fun h => hc h.symm)
      refine ⟨s, false, ?_, Nat.le_refl _, Or.inr ⟨fun z h => ?_, rfl, rfl⟩⟩
      · rw [hc', if_neg (by simp)]
        congr 2
        exact ba_ext hl.symm
      · unfold bytesOf at h
        rw [hl] at h
        simp only [List.map_cons, List.cons.injEq] at h
        exact hc (UInt8.toNat_inj.1 (by have : (45 : UInt8).toNat = 45 := rfl; omega))
theorem clock_Parse_eq (s : ByteArray) (hs : s.size < 4294967281) : clock_Parse.F s = some (enc0 (clkS (bytesOf s))) := by
  rw [clock_Parse.F_eq]
  unfold clkS
  by_cases h : bytesOf s = [45]
  · rw [if_pos (is_dash.2 h), if_pos h]; rfl
  · rw [if_neg (fun h' => h (is_dash.1 h')), if_neg h]
    obtain ⟨t, b, e, ht, hc⟩ := cut_dash s
    have h58 : ((58 : UInt8).toNat : Int) = 58 := rfl
    rw [e, bind_some_]
    dsimp only
    rw [split_f_eq 58 (by omega), bind_some_, h58, clk_parts b _ (spl_bytes (bytes_of t)) (spl_ne _ _)]
    rcases hc with ⟨r, h1, rfl, h2⟩ | ⟨h1, rfl, rfl⟩
    · rw [h1, h2, if_pos (show (45 :: r).head? = some 45 from rfl)]
      rfl
    · rw [if_neg (fun h' => by
        cases hb : bytesOf t with
        | nil => rw [hb] at h'; simp at h'
        | cons x r =>
          rw [hb] at h'
          simp only [List.head?_cons, Option.some.injEq] at h'
          exact h1 r (by rw [hb, h']))]

/-! The page's -/
theorem ref_fin (b : Bool) (s : Int) (P : List ByteArray) (hs : 0 ≤ s ∧ s ≤ 100000000) : solsticeref01_Clock.L1 (if b = true then -1 else 1) P s (P.length : Int) = some (encB (fin b s)) := by
  rw [solsticeref01_Clock.L1_eq, if_neg (by omega)]
  unfold fin
  by_cases h : s > 345600
  · rw [if_pos h, if_pos h]; rfl
  · rw [if_neg h, if_neg h]
    cases b with
    | true => rw [if_pos rfl, if_pos rfl, wrap64_id (by omega) (by omega)]; show some (-1 * s, true) = some (-s, true); rw [show -1 * s = -s by omega]
    | false => rw [if_neg (by simp), if_neg (by simp), wrap64_id (by omega) (by omega)]; show some (1 * s, true) = some (s, true); rw [show 1 * s = s by omega]
theorem size_bytes {s : ByteArray} {a : List Int} (e : bytesOf s = a) : s.size = a.length := by
  have := size_len s
  rw [e] at this
  omega
theorem ref_m (x4 : Int) (s i : Int) (P : List ByteArray) (a : List Int) (hl : ∀ x ∈ P, x.size ≤ 9223372036854775806) (hi : 1 ≤ i) (hs : 0 ≤ s ∧ s ≤ 10000000) (hP : i < (P.length : Int)) (h3 : (P.length : Int) ≤ 3) (e : bytesOf (rdOf ByteArray.empty P i) = a) :
    solsticeref01_Clock.L1 x4 P s i = if okm a = true then solsticeref01_Clock.L1 x4 P (s + (if i = 1 then 60 * val 0 a else val 0 a)) (i + 1) else some (0, false) := by
  have hsz := hl _ (rdOf_mem ByteArray.empty (i := i) (by omega) hP)
  have hle := size_bytes e
  rw [solsticeref01_Clock.L1_eq, if_pos hP, if_pos (by omega), ref_Digits_eq _ hsz, bind_some_, e]
  by_cases hd : a.length = 2 ∧ a.all isDig = true
  · have hv := val_lt (k := 2) hd.2 (by omega)
    rw [if_pos (decide_eq_true ⟨by omega, by omega, hd.2⟩), ref_Value_eq _ (by omega) (by rw [e]; exact hd.2), bind_some_, solsticeref01_Clock.J5_eq, e]
    by_cases h : okm a = true
    · have h60 := (okm_iff.1 h).2.2
      rw [if_neg (by simp; omega), if_pos h]
      by_cases h1 : i = 1
      · rw [if_pos h1, if_pos (by omega), if_pos hP, ref_Value_eq _ (by omega) (by rw [e]; exact hd.2), bind_some_, e, if_pos h1]
        rw [wrap64_id (n := 60 * val 0 a) (by omega) (by omega), wrap64_id (n := s + 60 * val 0 a) (by omega) (by omega), wrap64_id (n := i + 1) (by omega) (by omega)]
      · rw [if_neg h1, if_pos (by omega), if_pos hP, ref_Value_eq _ (by omega) (by rw [e]; exact hd.2), bind_some_, e, if_neg h1]
        rw [wrap64_id (n := s + val 0 a) (by omega) (by omega), wrap64_id (n := i + 1) (by omega) (by omega)]
    · have h60 : ¬ val 0 a < 60 := fun h' => h (okm_iff.2 ⟨hd.1, hd.2, h'⟩)
      rw [if_pos (by simp; omega), if_neg h]
  · rw [if_neg (by simp only [decide_eq_true_eq]; exact fun h' => hd ⟨by omega, h'.2.2⟩), solsticeref01_Clock.J5_eq, if_pos rfl, if_neg (fun h => hd ⟨(okm_iff.1 h).1, (okm_iff.1 h).2.1⟩)]
theorem ref_h (b : Bool) (P : List ByteArray) (a : List Int) (hl : ∀ x ∈ P, x.size ≤ 9223372036854775806) (hP : 0 < P.length) (e : bytesOf (rdOf ByteArray.empty P 0) = a) :
    ((solsticeref01_Digits.F (rdOf ByteArray.empty P 0) 1 3).bind fun t127 => (solsticeref01_Clock.J3 (if b = true then -1 else 1) P (!t127))) = if okh a = true then solsticeref01_Clock.L1 (if b = true then -1 else 1) P (3600 * val 0 a) 1 else some (0, false) := by
  have hsz := hl _ (rdOf_mem ByteArray.empty (i := 0) (by omega) (by omega))
  have hle := size_bytes e
  rw [ref_Digits_eq _ hsz, bind_some_, e, solsticeref01_Clock.J3_eq]
  by_cases h : okh a = true
  · have h' := okh_iff.1 h
    have hv := okh_val h
    rw [if_neg (by simp only [Bool.not_eq_true', decide_eq_false_iff_not, Classical.not_not]; exact ⟨by omega, by omega, h'.2.2⟩), if_pos h, if_pos (by omega), ref_Value_eq _ (by omega) (by rw [e]; exact h'.2.2), bind_some_, e, wrap64_id (by omega) (by omega)]
  · rw [if_pos (by simp only [Bool.not_eq_true', decide_eq_false_iff_not]; exact fun h' => h (okh_iff.2 ⟨by omega, by omega, h'.2.2⟩)), if_neg h]
theorem ref_parts (b : Bool) (p : List (List Int)) (hp : ∀ y ∈ p, Bytes y ∧ y.length ≤ 9223372036854775806) (h0 : p ≠ []) : (if ((p.map strOfNums).length : Int) > 3 then (solsticeref01_Clock.J3 (if b = true then -1 else 1) (p.map strOfNums) true) else (if 0 < ((p.map strOfNums).length : Int) then ((solsticeref01_Digits.F (rdOf ByteArray.empty (p.map strOfNums) 0) 1 3).bind fun t127 => (solsticeref01_Clock.J3 (if b = true then -1 else 1) (p.map strOfNums) (!t127))) else (none))) = some (encB ((partsV p).bind (fin b))) := by
  have hl : ∀ x ∈ p.map strOfNums, x.size ≤ 9223372036854775806 := by
    intro x hx
    obtain ⟨y, hy, rfl⟩ := List.mem_map.1 hx
    rw [size_strOf]
    exact (hp y hy).2
  match p, hp, h0, hl with
  | [], _, h, _ => exact absurd rfl h
  | [a], hp, _, hl =>
    have ea : bytesOf (strOfNums a) = a := bytes_strOf (hp a (by simp)).1
    rw [if_neg (by simp), if_pos (by simp), ref_h b ([a].map strOfNums) a hl (by simp) ea]
    rw [partsV1]
    by_cases h : okh a = true
    · have hv := okh_val h
      rw [if_pos h, if_pos h]
      exact ref_fin b _ [strOfNums a] (by omega)
    · rw [if_neg h, if_neg h]; rfl
  | [a, c], hp, _, hl =>
    have ea : bytesOf (strOfNums a) = a := bytes_strOf (hp a (by simp)).1
    have ec : bytesOf (strOfNums c) = c := bytes_strOf (hp c (by simp)).1
    rw [if_neg (by simp), if_pos (by simp), ref_h b ([a, c].map strOfNums) a hl (by simp) ea]
    rw [partsV2]
    by_cases h : okh a = true
    · have hv := okh_val h
      rw [if_pos h, ref_m _ _ 1 ([a, c].map strOfNums) c hl (by omega) (by omega) (by simp) (by simp) ec]
      by_cases h2 : okm c = true
      · have hv2 := okm_val h2
        rw [if_pos h2, if_pos rfl, if_pos (show okh a = true ∧ okm c = true from ⟨h, h2⟩), show (1 + 1 : Int) = 2 from rfl]
        exact ref_fin b _ [strOfNums a, strOfNums c] (by omega)
      · rw [if_neg h2, if_neg (fun h' => h2 h'.2)]; rfl
    · rw [if_neg h, if_neg (fun h' => h h'.1)]; rfl
  | [a, c, d], hp, _, hl =>
    have ea : bytesOf (strOfNums a) = a := bytes_strOf (hp a (by simp)).1
    have ec : bytesOf (strOfNums c) = c := bytes_strOf (hp c (by simp)).1
    have ed : bytesOf (strOfNums d) = d := bytes_strOf (hp d (by simp)).1
    rw [if_neg (by simp), if_pos (by simp), ref_h b ([a, c, d].map strOfNums) a hl (by simp) ea]
    rw [partsV3]
    by_cases h : okh a = true
    · have hv := okh_val h
      rw [if_pos h, ref_m _ _ 1 ([a, c, d].map strOfNums) c hl (by omega) (by omega) (by simp) (by simp) ec]
      by_cases h2 : okm c = true
      · have hv2 := okm_val h2
        rw [if_pos h2, if_pos rfl, show (1 + 1 : Int) = 2 from rfl, ref_m _ _ 2 ([a, c, d].map strOfNums) d hl (by omega) (by omega) (by simp) (by simp) ed, if_neg (by omega : ¬ (2 : Int) = 1)]
        by_cases h3 : okm d = true
        · have hv3 := okm_val h3
          rw [if_pos h3, if_pos (show okh a = true ∧ okm c = true ∧ okm d = true from ⟨h, h2, h3⟩), show (2 + 1 : Int) = 3 from rfl]
          exact ref_fin b _ [strOfNums a, strOfNums c, strOfNums d] (by omega)
        · rw [if_neg h3, if_neg (fun h' => h3 h'.2.2)]; rfl
      · rw [if_neg h2, if_neg (fun h' => h2 h'.2.1)]; rfl
    · rw [if_neg h, if_neg (fun h' => h h'.1)]; rfl
  | a :: c :: d :: f :: r, _, _, _ =>
    rw [if_pos (by simp only [List.map_cons, List.length_cons]; omega), solsticeref01_Clock.J3_eq, if_pos rfl]
    rfl
/-- The loop that finds the parts: what is done, and the rest. -/
theorem ref_split (s : ByteArray) (x4 : Int) (hs : s.size ≤ 1000000) : ∀ (n : Nat) (P : List (List Int)) (i j : Int), n = (s.size : Int).toNat - j.toNat → 0 ≤ i → i ≤ j → j ≤ (s.size : Int) → (P.length : Int) ≤ i → (∀ x ∈ seg s i j, x ≠ 58) →
    solsticeref01_Clock.L0 s x4 (P.map strOfNums) i j = solsticeref01_Clock.L0 s x4 ((P ++ spl 58 (seg s i j ++ rest s j)).map strOfNums) ((s.size : Int) + 1) ((s.size : Int) + 1) := by
  intro n
  induction n with
  | zero =>
    intro P i j hn h0 h1 h2 hP hno
    have hj : j = (s.size : Int) := by omega
    rw [solsticeref01_Clock.L0_eq, if_pos h2, if_pos hj, if_pos h0, if_pos h1, if_pos (by rw [List.length_map]; omega), rest_nil (by omega), List.append_nil, spl_no hno, seg_extract, wrap64_id (by omega) (by omega), hj]
    rw [List.map_append]
    rfl
  | succ n ih =>
    intro P i j hn h0 h1 h2 hP hno
    have hj : j < (s.size : Int) := by omega
    rw [solsticeref01_Clock.L0_eq, if_pos h2, if_neg (by omega), if_pos (by omega), if_pos hj, rest_cons (by omega) hj]
    by_cases hc : bt s j = 58
    · rw [if_pos hc, if_pos h0, if_pos h1, if_pos (by rw [List.length_map]; omega), hc, spl_hit hno, seg_extract, wrap64_id (by omega) (by omega)]
      have e : P.map strOfNums ++ [strOfNums (seg s i j)] = (P ++ [seg s i j]).map strOfNums := by rw [List.map_append]; rfl
      rw [e, ih _ (j + 1) (j + 1) (by omega) (by omega) (by omega) (by omega) (by rw [List.length_append, List.length_singleton]; omega) (by rw [seg_self]; exact fun x hx => by cases hx), seg_self, List.nil_append, List.append_assoc]
      rfl
    · rw [if_neg hc, wrap64_id (by omega) (by omega)]
      have hno' : ∀ x ∈ seg s i (j + 1), x ≠ 58 := by
        rw [seg_snoc h0 h1 hj]
        intro x hx
        rcases List.mem_append.1 hx with hx | hx
        · exact hno x hx
        · rw [List.mem_singleton.1 hx]; exact hc
      rw [ih P i (j + 1) (by omega) h0 (by omega) (by omega) hP hno', seg_snoc h0 h1 hj, List.append_assoc]
      rfl
theorem spl_len {c : Int} : ∀ (l : List Int), ∀ y ∈ spl c l, y.length ≤ l.length
  | [], y, hy => by
    rw [spl, List.mem_singleton] at hy
    rw [hy]; simp
  | x :: l, y, hy => by
    have ih := spl_len (c := c) l
    rw [spl] at hy
    split at hy
    · rcases List.mem_cons.1 hy with rfl | hy
      · simp
      · have := ih y hy
        rw [List.length_cons]; omega
    · split at hy
      · rw [List.mem_singleton] at hy
        rw [hy]; simp
      · rename_i z zs hz
        rcases List.mem_cons.1 hy with rfl | hy
        · have := ih z (by rw [hz]; exact List.mem_cons_self ..)
          simp only [List.length_cons]; omega
        · have := ih y (by rw [hz]; exact List.mem_cons_of_mem _ hy)
          rw [List.length_cons]; omega
theorem ref_J1 (s : ByteArray) (b : Bool) (hs : s.size ≤ 1000000) : solsticeref01_Clock.J1 s (if b = true then -1 else 1) = some (encB ((partsV (spl 58 (bytesOf s))).bind (fin b))) := by
  have h := ref_split s (if b = true then -1 else 1) hs _ [] 0 0 rfl (by omega) (by omega) (by omega) (by simp) (by rw [seg_self]; exact fun x hx => by cases hx)
  rw [solsticeref01_Clock.J1_eq, show ([] : List ByteArray) = ([] : List (List Int)).map strOfNums from rfl, h, seg_self, List.nil_append, List.nil_append, rest_zero, solsticeref01_Clock.L0_eq, if_neg (by omega)]
  refine ref_parts b _ (fun y hy => ⟨spl_bytes (bytes_of s) y hy, ?_⟩) (spl_ne _ _)
  have := spl_len _ y hy
  rw [bytesOf_length] at this
  omega
theorem ref_Clock_eq (s : ByteArray) (hs : s.size ≤ 1000000) : solsticeref01_Clock.F s = some (encB (clkS (bytesOf s))) := by
  rw [solsticeref01_Clock.F_eq]
  unfold clkS
  by_cases h : bytesOf s = [45]
  · rw [if_pos (is_dash.2 h), if_pos h]; rfl
  · rw [if_neg (fun h' => h (is_dash.1 h')), if_neg h]
    have hr := rest_zero s
    by_cases h1 : (s.size : Int) > 0
    · rw [if_pos h1, if_pos h1, solsticeref01_Clock.J0_eq]
      rw [rest_cons (by omega) (by omega)] at hr
      by_cases hc : bt s 0 = 45
      · have e1 : bytesOf (s.extract 1 s.size) = rest s (0 + 1) := by rw [extract_all]; rfl
        have := ref_J1 (s.extract 1 s.size) true (by rw [ByteArray.size_extract]; omega)
        rw [if_pos rfl, e1] at this
        rw [if_pos (by simpa using hc), if_pos (by omega), this, ← hr, hc, if_pos (show (45 :: rest s (0 + 1)).head? = some 45 from rfl)]
        rfl
      · have := ref_J1 s false hs
        rw [if_neg (by simp)] at this
        rw [if_neg (by simpa using hc), this, if_neg (fun h' => hc (by rw [← hr] at h'; simpa using h'))]
    · have e0 : bytesOf s = [] := by
        have := size_len s
        exact List.eq_nil_of_length_eq_zero (by omega)
      have := ref_J1 s false hs
      rw [if_neg (by simp)] at this
      rw [if_neg h1, solsticeref01_Clock.J0_eq, if_neg (by simp), this, e0]
      rfl
end Go.Proofs.YtlfohcjajmebjaaDoor.Base

namespace Go.Proofs.YtlfohcjajmebjaaDoor.Base
open Go.RowKit Go.Proofs.YtlfohcjajmebjaaDoor.PClk Go.Proofs.YtlfohcjajmebjaaDoorW.PrintWords Go.Proofs.YtlfohcjajmebjaaDoorW.PrintLast Go.Proofs.YtlfohcjajmebjaaDoorW.PrintMore
set_option linter.unusedVariables false
set_option linter.unusedSimpArgs false

theorem txt_len {n d : Int} (h1 : n ≤ 9223372036854775807) : (txt n d).length ≤ 20 := by
  unfold txt wide
  split
  · simp
  · have := digs_len20 h1
    rw [List.length_append, List.length_replicate]
    split
    · omega
    · omega
theorem txt_one (n : Int) : txt n 1 = txt n 0 := by
  unfold txt wide
  have := digs_pos n.toNat
  split
  · rfl
  · rw [if_neg (by omega), if_neg (by omega), show (1 : Int).toNat - (digs n.toNat).length = 0 by omega, show (0 : Int).toNat - (digs n.toNat).length = 0 by omega]
theorem txt_dig_ {n d : Int} (h : 0 ≤ n) : (txt n d).all isDig = true := by
  unfold txt
  rw [if_neg (by omega), List.all_append, digs_dig, Bool.and_true]
  rw [List.all_eq_true]
  intro x hx
  obtain ⟨_, rfl⟩ := List.mem_replicate.1 hx
  decide
theorem txt_val_ {n d : Int} (h : 0 ≤ n) : val 0 (txt n d) = n := by
  unfold txt
  rw [if_neg (by omega), val_append, val_zeros, digs_val]
  omega
theorem txt_two {n : Int} (h : 0 ≤ n) (h1 : n < 100) : (txt n 2).length = 2 := by
  unfold txt wide
  have := digs_pos n.toNat
  have := digs_len n.toNat 2 (by omega) (by
    have : (10 : Nat) ^ 2 = 100 := by decide
    omega)
  rw [if_neg (by omega), if_neg (by omega), List.length_append, List.length_replicate]
  omega
theorem txt_two0 {n : Int} (h : 0 ≤ n) (h1 : n < 100) : 1 ≤ (txt n 0).length ∧ (txt n 0).length ≤ 2 := by
  unfold txt wide
  have := digs_pos n.toNat
  have := digs_len n.toNat 2 (by omega) (by
    have : (10 : Nat) ^ 2 = 100 := by decide
    omega)
  rw [if_neg (by omega), if_neg (by omega), List.length_append, List.length_replicate]
  omega
theorem dig_no58 {l : List Int} (h : l.all isDig = true) : ∀ x ∈ l, x ≠ 58 := fun x hx => by
  have := (isDig_iff x).1 (List.all_eq_true.1 h x hx)
  omega
/-- Behind the sign. -/
def ctail (m : Int) : List Int := txt (m / 3600) 0 ++ ((if m % 3600 = 0 then [] else 58 :: txt (m % 3600 / 60) 2) ++ (if m % 60 = 0 then [] else 58 :: txt (m % 60) 2))
def ctxt (n : Int) : List Int := if n < 0 then 45 :: ctail (-n) else ctail n
theorem ctail_bytes (m : Int) : Bytes (ctail m) := by
  unfold ctail
  refine Bytes.app (txt_bytes _ _) (Bytes.app ?_ ?_)
  · split
    · exact Bytes.nil
    · exact Bytes.cons (by omega) (by omega) (txt_bytes _ _)
  · split
    · exact Bytes.nil
    · exact Bytes.cons (by omega) (by omega) (txt_bytes _ _)
theorem ctxt_bytes (n : Int) : Bytes (ctxt n) := by
  unfold ctxt
  split
  · exact Bytes.cons (by omega) (by omega) (ctail_bytes _)
  · exact ctail_bytes _
theorem ctail_len {m : Int} (h1 : m ≤ 9223372036854775807) (h0 : 0 ≤ m) : (ctail m).length ≤ 62 := by
  unfold ctail
  have a := txt_len (n := m / 3600) (d := 0) (by omega)
  have b := txt_len (n := m % 3600 / 60) (d := 2) (by omega)
  have c := txt_len (n := m % 60) (d := 2) (by omega)
  rw [List.length_append, List.length_append]
  have e1 : (if m % 3600 = 0 then [] else 58 :: txt (m % 3600 / 60) 2).length ≤ 21 := by
    split
    · simp
    · rw [List.length_cons]; omega
  have e2 : (if m % 60 = 0 then [] else 58 :: txt (m % 60) 2).length ≤ 21 := by
    split
    · simp
    · rw [List.length_cons]; omega
  omega
theorem ctxt_len {n : Int} (h1 : -345600 ≤ n ∧ n ≤ 345600) : (ctxt n).length ≤ 63 := by
  unfold ctxt
  split
  · have := ctail_len (m := -n) (by omega) (by omega)
    rw [List.length_cons]; omega
  · have := ctail_len (m := n) (by omega) (by omega)
    omega
theorem colon_app (l : List Int) : (⟨#[58]⟩ : ByteArray) ++ strOfNums l = strOfNums (58 :: l) := by
  rw [show (⟨#[58]⟩ : ByteArray) = strOfNums [58] from rfl, strOf_append]; rfl
theorem app_colon (l : List Int) : strOfNums l ++ (⟨#[58]⟩ : ByteArray) = strOfNums (l ++ [58]) := by
  rw [show (⟨#[58]⟩ : ByteArray) = strOfNums [58] from rfl, strOf_append]
theorem clock_Text_J1 (m : Int) (sg : List Int) (h : 0 ≤ m ∧ m ≤ 345600) (hs : sg.length ≤ 1) : clock_Text.J1 m (strOfNums sg) = some (strOfNums (sg ++ ctail m), 0) := by
  have e1 : Int.tdiv m 3600 = m / 3600 := Int.tdiv_eq_ediv_of_nonneg (by omega)
  have e2 : Int.tmod m 3600 = m % 3600 := Int.tmod_eq_emod_of_nonneg (by omega)
  have e3 : Int.tmod m 60 = m % 60 := Int.tmod_eq_emod_of_nonneg (by omega)
  have e4 : Int.tdiv (m % 3600) 60 = m % 3600 / 60 := Int.tdiv_eq_ediv_of_nonneg (by omega)
  have a := txt_len (n := m / 3600) (d := 0) (by omega)
  have b := txt_len (n := m % 3600 / 60) (d := 2) (by omega)
  have c := txt_len (n := m % 60) (d := 2) (by omega)
  rw [clock_Text.J1_eq, e1, e2, e3, e4, wrap64_id (n := m / 3600) (by omega) (by omega), wrap64_id (n := m % 3600 / 60) (by omega) (by omega), num_Text_eq _ 1 (by omega) (by omega), bind_some_, txt_one, size_strOf, size_strOf, if_pos (by omega)]
  unfold ctail
  by_cases h1 : m % 3600 = 0
  · have h2 : m % 60 = 0 := by omega
    rw [if_pos h1, if_pos h2, if_pos h1, if_pos h2, strOf_append, List.append_nil, List.append_nil]
  · rw [if_neg h1, if_neg h1, num_Text_eq _ 2 (by omega) (by omega), bind_some_, size_strOf, if_pos (by omega), strOf_append, colon_app, size_strOf, size_strOf, if_pos (by rw [List.length_append, List.length_cons]; omega), strOf_append]
    by_cases h2 : m % 60 = 0
    · rw [if_pos h2, if_pos h2, List.append_nil, List.append_assoc]
    · rw [if_neg h2, if_neg h2, num_Text_eq _ 2 (by omega) (by omega), bind_some_, size_strOf, if_pos (by omega), colon_app, size_strOf, size_strOf, if_pos (by simp only [List.length_append, List.length_cons]; omega), strOf_append, List.append_assoc, List.append_assoc]
theorem clock_Text_eq (n : Int) (hn : -9223372036854775808 ≤ n ∧ n ≤ 9223372036854775807) : clock_Text.F n = some (if -345600 ≤ n ∧ n ≤ 345600 then (strOfNums (ctxt n), 0) else ((⟨#[]⟩ : ByteArray), 5)) := by
  rw [clock_Text.F_eq]
  by_cases h1 : n < -345600
  · rw [if_pos h1, clock_Text.J0_eq, if_pos rfl, if_neg (by omega)]
  · rw [if_neg h1, clock_Text.J0_eq]
    by_cases h2 : n > 345600
    · rw [if_pos (decide_eq_true h2), if_neg (by omega)]
    · have hR : (if -345600 ≤ n ∧ n ≤ 345600 then (strOfNums (ctxt n), (0 : Int)) else ((⟨#[]⟩ : ByteArray), 5)) = (strOfNums (ctxt n), 0) := if_pos ⟨by omega, by omega⟩
      rw [hR, if_neg (by simpa using h2)]
      unfold ctxt
      by_cases h3 : n < 0
      · rw [if_pos h3, if_pos h3, wrap64_id (by omega) (by omega), show (⟨#[45]⟩ : ByteArray) = strOfNums [45] from rfl, clock_Text_J1 _ _ (by omega) (by simp)]
        rfl
      · rw [if_neg h3, if_neg h3, show (⟨#[]⟩ : ByteArray) = strOfNums [] from rfl, clock_Text_J1 _ _ (by omega) (by simp)]
        rfl
theorem ref_ClockText_J0 (m : Int) (sg : List Int) (h : 0 ≤ m ∧ m ≤ 345600) (hs : sg.length ≤ 1) : solsticeref01_ClockText.J0 m (strOfNums sg) = some (strOfNums (sg ++ ctail m)) := by
  have e1 : Int.tdiv m 3600 = m / 3600 := Int.tdiv_eq_ediv_of_nonneg (by omega)
  have e2 : Int.tmod m 3600 = m % 3600 := Int.tmod_eq_emod_of_nonneg (by omega)
  have e3 : Int.tmod m 60 = m % 60 := Int.tmod_eq_emod_of_nonneg (by omega)
  have e5 : Int.tdiv m 60 = m / 60 := Int.tdiv_eq_ediv_of_nonneg (by omega)
  have e4 : Int.tmod (m / 60) 60 = m % 3600 / 60 := by rw [Int.tmod_eq_emod_of_nonneg (by omega)]; omega
  have a := txt_len (n := m / 3600) (d := 0) (by omega)
  have b := txt_len (n := m % 3600 / 60) (d := 2) (by omega)
  have c := txt_len (n := m % 60) (d := 2) (by omega)
  rw [solsticeref01_ClockText.J0_eq, e1, e2, e3, e5, wrap64_id (n := m / 3600) (by omega) (by omega), wrap64_id (n := m / 60) (by omega) (by omega), e4, ref_Text_eq _ 0 (by omega), bind_some_, size_strOf, size_strOf, if_pos (by omega)]
  unfold ctail
  by_cases h1 : m % 3600 = 0
  · have h2 : m % 60 = 0 := by omega
    rw [if_pos h1, if_pos h2, if_pos h1, if_pos h2, strOf_append, List.append_nil, List.append_nil]
  · rw [if_neg h1, if_neg h1, strOf_append, size_strOf, if_pos (by rw [List.length_append]; omega), ref_Text_eq _ 2 (by omega), bind_some_, app_colon, size_strOf, size_strOf, if_pos (by simp only [List.length_append, List.length_singleton]; omega), strOf_append]
    by_cases h2 : m % 60 = 0
    · rw [if_pos h2, if_pos h2, List.append_nil]
      simp [List.append_assoc]
    · rw [if_neg h2, if_neg h2, size_strOf, if_pos (by simp only [List.length_append, List.length_singleton]; omega), ref_Text_eq _ 2 (by omega), bind_some_, app_colon, size_strOf, size_strOf, if_pos (by simp only [List.length_append, List.length_singleton]; omega), strOf_append]
      simp [List.append_assoc]
theorem ref_ClockText_eq (n : Int) (hn : -345600 ≤ n ∧ n ≤ 345600) : solsticeref01_ClockText.F n = some (strOfNums (ctxt n)) := by
  rw [solsticeref01_ClockText.F_eq]
  unfold ctxt
  by_cases h3 : n < 0
  · rw [if_pos h3, if_pos h3, wrap64_id (by omega) (by omega), show (⟨#[45]⟩ : ByteArray) = strOfNums [45] from rfl, ref_ClockText_J0 _ _ (by omega) (by simp)]
    rfl
  · rw [if_neg h3, if_neg h3, show (⟨#[]⟩ : ByteArray) = strOfNums [] from rfl, ref_ClockText_J0 _ _ (by omega) (by simp)]
    rfl
theorem okh_txt {n : Int} (h : 0 ≤ n ∧ n < 100) : okh (txt n 0) = true ∧ val 0 (txt n 0) = n := by
  have := txt_two0 h.1 h.2
  exact ⟨okh_iff.2 ⟨this.1, by omega, txt_dig_ h.1⟩, txt_val_ h.1⟩
theorem okm_txt {n : Int} (h : 0 ≤ n ∧ n < 60) : okm (txt n 2) = true ∧ val 0 (txt n 2) = n :=
  ⟨okm_iff.2 ⟨txt_two h.1 (by omega), txt_dig_ h.1, by rw [txt_val_ h.1]; exact h.2⟩, txt_val_ h.1⟩
theorem ctail_parts {m : Int} (h : 0 ≤ m ∧ m ≤ 345600) : partsV (spl 58 (ctail m)) = some m := by
  obtain ⟨a1, a2⟩ := okh_txt (n := m / 3600) (by omega)
  obtain ⟨b1, b2⟩ := okm_txt (n := m % 3600 / 60) (by omega)
  obtain ⟨c1, c2⟩ := okm_txt (n := m % 60) (by omega)
  have na := dig_no58 (txt_dig_ (n := m / 3600) (d := 0) (by omega))
  have nb := dig_no58 (txt_dig_ (n := m % 3600 / 60) (d := 2) (by omega))
  have nc := dig_no58 (txt_dig_ (n := m % 60) (d := 2) (by omega))
  unfold ctail
  by_cases h1 : m % 3600 = 0
  · have h2 : m % 60 = 0 := by omega
    rw [if_pos h1, if_pos h2, List.append_nil, List.append_nil, spl_no na]
    rw [partsV1, if_pos a1, a2]
    congr 1
    omega
  · rw [if_neg h1]
    by_cases h2 : m % 60 = 0
    · rw [if_pos h2, List.append_nil, spl_hit na, spl_no nb]
      rw [partsV2, if_pos ⟨a1, b1⟩, a2, b2]
      congr 1
      omega
    · rw [if_neg h2, List.cons_append, spl_hit na, spl_hit nb, spl_no nc]
      rw [partsV3, if_pos ⟨a1, b1, c1⟩, a2, b2, c2]
      congr 1
      omega
theorem ctail_head {m : Int} (h : 0 ≤ m) : ∃ c l, ctail m = c :: l ∧ isDig c = true := by
  have := txt_dig_ (n := m / 3600) (d := 0) (by omega)
  unfold ctail
  cases ht : txt (m / 3600) 0 with
  | nil =>
    exfalso
    unfold txt at ht
    rw [if_neg (by omega)] at ht
    have := digs_pos (m / 3600).toNat
    rw [List.append_eq_nil_iff] at ht
    rw [ht.2] at this
    simp at this
  | cons c l =>
    rw [ht, List.all_cons, Bool.and_eq_true] at this
    exact ⟨c, _, rfl, this.1⟩
theorem clkS_ctxt {n : Int} (h : -345600 ≤ n ∧ n ≤ 345600) : clkS (ctxt n) = some n := by
  unfold ctxt clkS
  by_cases h3 : n < 0
  · obtain ⟨c, l, e, hc⟩ := ctail_head (m := -n) (by omega)
    rw [if_pos h3, if_neg (by rw [e]; simp), if_pos (show (45 :: ctail (-n)).head? = some 45 from rfl), List.tail_cons, ctail_parts (by omega)]
    show fin true (-n) = some n
    unfold fin
    rw [if_neg (by omega), if_pos rfl, Int.neg_neg]
  · obtain ⟨c, l, e, hc⟩ := ctail_head (m := n) (by omega)
    have hc' := (isDig_iff c).1 hc
    rw [if_neg h3, if_neg (by rw [e]; simp only [List.cons.injEq]; omega)]
    have hp := ctail_parts (m := n) (by omega)
    rw [if_neg (by rw [e]; simp only [List.head?_cons, Option.some.injEq]; omega), hp]
    show fin false n = some n
    unfold fin
    rw [if_neg (by omega), if_neg (by simp)]
theorem partsV_nonneg {p : List (List Int)} {v : Int} (h : partsV p = some v) : 0 ≤ v := by
  unfold partsV at h
  split at h
  · split at h
    · rename_i h1
      have := okh_val h1
      have := Option.some.inj h
      omega
    · cases h
  · split at h
    · rename_i h1
      have := okh_val h1.1
      have := okm_val h1.2
      have := Option.some.inj h
      omega
    · cases h
  · split at h
    · rename_i h1
      have := okh_val h1.1
      have := okm_val h1.2.1
      have := okm_val h1.2.2
      have := Option.some.inj h
      omega
    · cases h
  · cases h
theorem fin_bd {b : Bool} {o : Option Int} {v : Int} (h : o.bind (fin b) = some v) (ho : ∀ x, o = some x → 0 ≤ x) : -345600 ≤ v ∧ v ≤ 345600 := by
  cases o with
  | none => cases h
  | some x =>
    have hx := ho x rfl
    rw [bind_some_] at h
    unfold fin at h
    split at h
    · cases h
    · have := Option.some.inj h
      split at this <;> omega
theorem clkS_bd {l : List Int} {v : Int} (h : clkS l = some v) : -345600 ≤ v ∧ v ≤ 345600 := by
  unfold clkS at h
  split at h
  · have := Option.some.inj h
    omega
  · split at h
    · exact fin_bd h (fun x hx => partsV_nonneg hx)
    · exact fin_bd h (fun x hx => partsV_nonneg hx)

theorem clock_Split_eq (n : Int) (h : -9223372036854775808 ≤ n ∧ n ≤ 9223372036854775807) : clock_Split.f n = some (n / 86400, n % 86400) := by
  unfold clock_Split.f
  have := tdiv_wrap (a := n) (b := 86400) (by omega) h (by omega)
  rw [← this]
  split <;> rfl
def joinS (a b : Int) : Int × Bool := if Bd (a * 86400 + b) then (a * 86400 + b, true) else (0, false)
theorem clock_Join_eq (a b : Int) (ha : -9223372036854775808 ≤ a ∧ a ≤ 9223372036854775807) (hb : -9223372036854775808 ≤ b ∧ b ≤ 9223372036854775807) : clock_Join.F a b = some (joinS a b) := by
  rw [clock_Join.F_eq, clock_Split_eq b hb, bind_some_]
  dsimp only
  have hq : -106751991167301 ≤ b / 86400 ∧ b / 86400 ≤ 106751991167300 := by omega
  have hr : 0 ≤ b % 86400 ∧ b % 86400 < 86400 := by omega
  have hv : (a + b / 86400) * 86400 + b % 86400 = a * 86400 + b := by omega
  have key : ∀ s : Int, s = a + b / 86400 → (-9223372036854775808 ≤ s ∧ s ≤ 9223372036854775807) → clock_Join.J0 (b % 86400) s false = some (joinS a b) := by
    intro s hs hs1
    have e1 : Int.tdiv (4611686018427387904 - b % 86400) 86400 = (4611686018427387904 - b % 86400) / 86400 := Int.tdiv_eq_ediv_of_nonneg (by omega)
    have e2 : Int.tdiv (4611686018427387904 + b % 86400) 86400 = (4611686018427387904 + b % 86400) / 86400 := Int.tdiv_eq_ediv_of_nonneg (by omega)
    unfold joinS
    rw [clock_Join.J0_eq, if_neg (by simp), wrap64_id (n := 4611686018427387904 - b % 86400) (by omega) (by omega), wrap64_id (n := 4611686018427387904 + b % 86400) (by omega) (by omega), e1, e2]
    rw [wrap64_id (n := (4611686018427387904 - b % 86400) / 86400) (by omega) (by omega), wrap64_id (n := (4611686018427387904 + b % 86400) / 86400) (by omega) (by omega), wrap64_id (n := -((4611686018427387904 + b % 86400) / 86400)) (by omega) (by omega)]
    by_cases h : Bd (a * 86400 + b)
    · have h' := h
      unfold Bd at h'
      rw [if_pos h, if_neg (by omega), if_neg (by omega), wrap64_id (n := s * 86400) (by omega) (by omega), wrap64_id (by omega) (by omega)]
      congr 2
      omega
    · have h' := h
      unfold Bd at h'
      rw [if_neg h]
      by_cases h1 : s > (4611686018427387904 - b % 86400) / 86400
      · rw [if_pos h1]
      · rw [if_neg h1, if_pos (by omega)]
  have far : ¬ (-9223372036854775808 ≤ a + b / 86400 ∧ a + b / 86400 ≤ 9223372036854775807) → joinS a b = (0, false) := by
    intro h
    unfold joinS
    rw [if_neg (by unfold Bd; omega)]
  by_cases hs : -9223372036854775808 ≤ a + b / 86400 ∧ a + b / 86400 ≤ 9223372036854775807
  · rw [wrap64_id hs.1 hs.2]
    have k := key _ rfl hs
    by_cases h1 : ((decide (a ≥ 0)) == (decide (b / 86400 ≥ 0))) = true
    · rw [if_pos h1]
      have h2 : (decide (a + b / 86400 ≥ 0) != decide (a ≥ 0)) = false := by
        rw [beq_iff_eq, decide_eq_decide] at h1
        rw [bne_eq_false_iff_eq, decide_eq_decide]
        omega
      rw [h2]
      exact k
    · rw [if_neg h1]
      exact k
  · rw [far hs]
    have h1 : ((decide (a ≥ 0)) == (decide (b / 86400 ≥ 0))) = true := by
      rw [beq_iff_eq, decide_eq_decide]
      omega
    have h2 : (decide (wrap64 (a + b / 86400) ≥ 0) != decide (a ≥ 0)) = true := by
      rw [bne_iff_ne, Ne, decide_eq_decide]
      unfold wrap64
      omega
    rw [if_pos h1, h2, clock_Join.J0_eq, if_pos rfl]
theorem ref_JoinDay_eq (a b : Int) (ha : -9223372036854775808 ≤ a ∧ a ≤ 9223372036854775807) (hb : -9223372036854775808 ≤ b ∧ b ≤ 9223372036854775807) : solsticeref01_JoinDay.f a b = some (joinS a b) := by
  have hin : ∀ n lo hi : Int, solsticeref01_In.f n lo hi = some (decide (lo ≤ n ∧ n ≤ hi)) := by
    intro n lo hi
    unfold solsticeref01_In.f
    by_cases h : n ≥ lo
    · rw [if_pos h]
      have : lo ≤ n := h
      simp [this]
    · rw [if_neg h]
      have : ¬ lo ≤ n := h
      simp [this]
  have hq : -106751991167301 ≤ b / 86400 ∧ b / 86400 ≤ 106751991167300 := by omega
  have hr : 0 ≤ b % 86400 ∧ b % 86400 < 86400 := by omega
  have hv : (a + b / 86400) * 86400 + b % 86400 = a * 86400 + b := by omega
  unfold solsticeref01_JoinDay.f joinS
  rw [hin, bind_some_]
  by_cases h1 : -1125899906842624 ≤ a ∧ a ≤ 1125899906842624
  · rw [if_pos (decide_eq_true h1), ref_Div_eq b 86400 hb (by omega), bind_some_]
    dsimp only
    rw [wrap64_id (n := a + b / 86400) (by omega) (by omega), hin, bind_some_]
    by_cases h2 : -53375995583651 ≤ a + b / 86400 ∧ a + b / 86400 ≤ 53375995583650
    · rw [if_pos (decide_eq_true h2), wrap64_id (n := (a + b / 86400) * 86400) (by omega) (by omega), wrap64_id (by omega) (by omega), hv, ref_Bound_eq, bind_some_]
      by_cases h3 : Bd (a * 86400 + b)
      · rw [if_pos (decide_eq_true h3), if_pos h3]
      · rw [if_neg (by simpa using h3), if_neg h3]
    · rw [if_neg (by simpa using h2), if_neg (by unfold Bd; omega)]
  · rw [if_neg (by simpa using h1), if_neg (by unfold Bd; omega)]
theorem wakes04 : solsticelaw04_wakes.F = some true := by
  have c1 : clkS (bytesOf (⟨#[45, 49, 58, 51, 48]⟩ : ByteArray)) = some (-5400) := by decide +kernel
  have d1 : (1 : Nat) < 10 := by decide
  have t1 : ctxt 3661 = [49, 58, 48, 49, 58, 48, 49] := by
    have e : digs 1 = [49] := digs_small d1
    have e1 : txt 1 0 = [49] := by unfold txt; rw [if_neg (by decide), show (1 : Int).toNat = 1 from rfl, e]; rfl
    have e2 : txt 1 2 = [48, 49] := by unfold txt; rw [if_neg (by decide), show (1 : Int).toNat = 1 from rfl, e]; rfl
    unfold ctxt ctail
    rw [if_neg (by decide), show (3661 : Int) / 3600 = 1 by decide, show (3661 : Int) % 3600 / 60 = 1 by decide, show (3661 : Int) % 60 = 1 by decide, show (3661 : Int) % 3600 = 61 by decide, e1, e2]
    rfl
  have j1 : joinS 1 (-1) = (86399, true) := by decide
  rw [solsticelaw04_wakes.F_eq, clock_Parse_eq _ (by decide), bind_some_, clock_Text_eq _ (by omega), bind_some_, clock_Split_eq _ (by omega), bind_some_, clock_Join_eq _ _ (by omega) (by omega), bind_some_, c1, t1, j1]
  decide +kernel
end Go.Proofs.YtlfohcjajmebjaaDoor.Base
