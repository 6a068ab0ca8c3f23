/- Times' texts with a comma between: what the printed value.Times and solsticekeep.Ints compute. No condition. -/
import Derived.Test.YtligbecmbefclaaDoorStr
import Derived.Lib.SplitLaws
import Derived.Lib.IndexLaws
import Derived.Lib.Strings
import Derived.Test.YtligbecmbefclaaDoorPVexx8
import Derived.Test.YtligbecmbefclaaDoorValU
import Derived.Test.YtligbecmbefclaaDoorEVexx9
import Derived.Test.YtligbecmbefclaaDoorEVexx13
/- A text's parts between signs of one kind: strings.Split as the printed function has it; texts put together with a sign between and parted again. No condition. -/
namespace Go.Proofs.YtligbecmbefclaaDoor.Base
open Go.RowKit Go.Proofs.YtligbecmbefclaaDoor.PVex Go.Proofs.YtligbecmbefclaaDoorW.PrintWords Go.Proofs.YtligbecmbefclaaDoorW.PrintLast Go.Proofs.YtligbecmbefclaaDoorW.PrintMore
set_option linter.unusedVariables false
set_option linter.unusedSimpArgs false

/-- A text's parts between the signs c. -/
def spl (c : Int) : List Int → List (List Int)
  | [] => [[]]
  | x :: l => if x = c then [] :: spl c l else match spl c l with | [] => [[x]] | y :: ys => (x :: y) :: ys
theorem spl_no {c : Int} : ∀ {l : List Int}, (∀ x ∈ l, x ≠ c) → spl c l = [l]
  | [], _ => rfl
  | x :: l, h => by
    rw [spl, if_neg (h x (List.mem_cons_self ..)), spl_no (fun y hy => h y (List.mem_cons_of_mem _ hy))]
theorem spl_hit {c : Int} {b : List Int} : ∀ {a : List Int}, (∀ x ∈ a, x ≠ c) → spl c (a ++ c :: b) = a :: spl c b
  | [], _ => by rw [List.nil_append, spl, if_pos rfl]
  | x :: a, h => by
    rw [List.cons_append, spl, if_neg (h x (List.mem_cons_self ..)), spl_hit (fun y hy => h y (List.mem_cons_of_mem _ hy))]
theorem spl_ne (c : Int) : ∀ l : List Int, spl c l ≠ []
  | [] => by simp [spl]
  | x :: l => by
    rw [spl]
    split
    · simp
    · split <;> simp
theorem spl_bytes {c : Int} : ∀ {l : List Int}, Bytes l → ∀ y ∈ spl c l, Bytes y
  | [], _, y, hy => by
    rw [spl, List.mem_singleton] at hy
    rw [hy]
    exact Bytes.nil
  | x :: l, h, y, hy => by
    have ih := spl_bytes (c := c) h.tail
    rw [spl] at hy
    split at hy
    · rcases List.mem_cons.1 hy with rfl | hy
      · exact Bytes.nil
      · exact ih y hy
    · split at hy
      · rw [List.mem_singleton] at hy
        rw [hy]
        exact Bytes.cons h.head.1 h.head.2 Bytes.nil
      · rename_i z zs hz
        rcases List.mem_cons.1 hy with rfl | hy
        · exact Bytes.cons h.head.1 h.head.2 (ih z (by rw [hz]; exact List.mem_cons_self ..))
        · exact ih y (by rw [hz]; exact List.mem_cons_of_mem _ hy)
theorem split_spl (c : UInt8) : ∀ (k : Nat) (s : ByteArray), Lib.countB s ⟨#[c]⟩ = k → Lib.splitB ⟨#[c]⟩ 0 k s = (spl (c.toNat : Int) (bytesOf s)).map strOfNums := by
  have hsz : (⟨#[c]⟩ : ByteArray).size = 1 := rfl
  have h1 : 1 ≤ (⟨#[c]⟩ : ByteArray).size := by rw [hsz]; exact Nat.le_refl _
  have hix : ∀ s : ByteArray, Lib.indexB s ⟨#[c]⟩ = Lib.indexByte s.data.toList c := fun s => Lib.index_one _ _
  have hne : ∀ b : UInt8, b ≠ c → (b.toNat : Int) ≠ (c.toNat : Int) := fun b hb h => hb (UInt8.toNat_inj.1 (by omega))
  have miss : ∀ s : ByteArray, Lib.indexB s ⟨#[c]⟩ = -1 → spl (c.toNat : Int) (bytesOf s) = [bytesOf s] := by
    intro s h
    rw [hix] at h
    refine spl_no fun x hx => ?_
    unfold bytesOf at hx
    obtain ⟨b, hb, rfl⟩ := List.mem_map.1 hx
    refine hne b fun e => ?_
    subst e
    obtain ⟨j, hj, e⟩ := List.getElem_of_mem hb
    exact Lib.indexByte_none h j (by rw [List.getElem?_eq_getElem hj, e])
  intro k
  induction k with
  | zero =>
    intro s hk
    rcases Lib.indexB_cases s ⟨#[c]⟩ with hi | ⟨i, hi, _⟩
    · rw [Lib.splitB_zero, miss s hi, List.map_cons, List.map_nil, strOf_bytes]
    · have := Lib.countB_hit s ⟨#[c]⟩ i h1 hi
      omega
  | succ k ih =>
    intro s hk
    rcases Lib.indexB_cases s ⟨#[c]⟩ with hi | ⟨i, hi, hroom⟩
    · rw [Lib.countB_miss s _ hi] at hk
      omega
    · have hc := Lib.countB_hit s ⟨#[c]⟩ i h1 hi
      rw [Lib.splitB_hit _ _ _ _ i hi, ih _ (by omega)]
      have hi' := hi
      rw [hix] at hi'
      obtain ⟨g1, g2⟩ := Lib.indexByte_some hi'
      have hlen : i < s.data.toList.length := (List.getElem?_eq_some_iff.1 g1).1
      have hl : i < (s.data.toList.map (fun b : UInt8 => (b.toNat : Int))).length := by rw [List.length_map]; exact hlen
      have e1 : (s.data.toList.map (fun b : UInt8 => (b.toNat : Int)))[i]'hl = (c.toNat : Int) := by
        rw [List.getElem_map]
        rw [List.getElem?_eq_getElem hlen] at g1
        rw [Option.some.inj g1]
      have e : bytesOf s = (bytesOf s).take i ++ (c.toNat : Int) :: (bytesOf s).drop (i + 1) := by
        show s.data.toList.map (fun b : UInt8 => (b.toNat : Int)) = (s.data.toList.map (fun b : UInt8 => (b.toNat : Int))).take i ++ (c.toNat : Int) :: (s.data.toList.map (fun b : UInt8 => (b.toNat : Int))).drop (i + 1)
        rw [← e1, List.getElem_cons_drop, List.take_append_drop]
      have hno : ∀ x ∈ (bytesOf s).take i, x ≠ (c.toNat : Int) := by
        intro x hx
        have hx' : x ∈ (s.data.toList.take i).map (fun b : UInt8 => (b.toNat : Int)) := by rw [List.map_take]; exact hx
        obtain ⟨b, hb, rfl⟩ := List.mem_map.1 hx'
        refine hne _ fun e' => ?_
        subst e'
        obtain ⟨j, hj, ex⟩ := List.getElem_of_mem hb
        rw [List.getElem_take] at ex
        rw [List.length_take] at hj
        refine g2 j (by omega) ?_
        have hjl : j < s.data.toList.length := by omega
        rw [List.getElem?_eq_getElem hjl, ex]
      have e2 : bytesOf (s.extract (i + (⟨#[c]⟩ : ByteArray).size) s.size) = (bytesOf s).drop (i + 1) := by rw [hsz, extract_all]
      have e3 : s.extract 0 (i + 0) = strOfNums ((bytesOf s).take i) := bytes_inj (by rw [bytes_extract, bytes_strOf (fun x hx => bytes_of s x (List.mem_of_mem_take hx))]; rfl)
      rw [e2, e3]
      conv => rhs; rw [e, spl_hit hno]
      rw [List.map_cons]
theorem split_f_eq {s : ByteArray} (c : UInt8) (hs : s.size < 4294967281) : strings_Split.f s ⟨#[c]⟩ = some ((spl (c.toNat : Int) (bytesOf s)).map strOfNums) := by
  have h1 : 1 ≤ (⟨#[c]⟩ : ByteArray).size := Nat.le_refl 1
  have hle := Lib.countB_le ⟨#[c]⟩ h1 s.size s (Nat.le_refl _)
  unfold strings_Split.f
  rw [if_pos ⟨hs, h1, Lib.splitB_all _ h1 0 _ s rfl, by omega⟩, split_spl c _ s rfl]

theorem spl_len {c : Int} : ∀ (l : List Int), ∀ y ∈ spl c l, y.length ≤ l.length
  | [], y, hy => by
    rw [spl, List.mem_singleton] at hy
    rw [hy]; simp
  | x :: l, y, hy => by
    have ih := spl_len (c := c) l
    rw [spl] at hy
    split at hy
    · rcases List.mem_cons.1 hy with rfl | hy
      · simp
      · have := ih y hy
        rw [List.length_cons]; omega
    · split at hy
      · rw [List.mem_singleton] at hy
        rw [hy]; simp
      · rename_i z zs hz
        rcases List.mem_cons.1 hy with rfl | hy
        · have := ih z (by rw [hz]; exact List.mem_cons_self ..)
          simp only [List.length_cons]; omega
        · have := ih y (by rw [hz]; exact List.mem_cons_of_mem _ hy)
          rw [List.length_cons]; omega
theorem spl_jn {c : Int} : ∀ {ps : List (List Int)}, ps ≠ [] → (∀ p ∈ ps, ∀ x ∈ p, x ≠ c) → spl c (jn [c] ps) = ps
  | [], h, _ => absurd rfl h
  | [p], _, h => spl_no (h p (List.mem_cons_self ..))
  | p :: q :: ps, _, h => by
    rw [jn, List.singleton_append, spl_hit (h p (List.mem_cons_self ..)), spl_jn (by simp) (fun x hx => h x (List.mem_cons_of_mem _ hx))]
end Go.Proofs.YtligbecmbefclaaDoor.Base

namespace Go.Proofs.YtligbecmbefclaaDoor.Base
open Go.RowKit Go.Proofs.YtligbecmbefclaaDoor.PVex Go.Proofs.YtligbecmbefclaaDoorW.PrintWords Go.Proofs.YtligbecmbefclaaDoorW.PrintLast Go.Proofs.YtligbecmbefclaaDoorW.PrintMore
set_option linter.unusedVariables false
set_option linter.unusedSimpArgs false
def timesR (acc : List Int) (u : Bool) (first : Bool) : List (Option (Int × Bool)) → Option (List Int × Bool)
  | [] => some (acc, u)
  | none :: _ => none
  | some (t, v) :: ps => if first = false ∧ v ≠ u then none else timesR (acc ++ [t]) v false ps
def encTs : Option (List Int × Bool) → List Int × Bool × Int
  | some (l, u) => (l, u, 0)
  | none => ([], false, 19)
def tsS (l : List Int) : Option (List Int × Bool) := timesR [] false true ((spl 44 l).map ptS)
theorem Times_L0 (xs : List ByteArray) (hx : ∀ x ∈ xs, x.size ≤ 9223372036854775807) (hl : (xs.length : Int) ≤ 4294967281) : ∀ (k : Nat) (i : Int) (acc : List Int) (u : Bool), i + k = xs.length → 0 ≤ i → (acc.length : Int) ≤ i →
    value_Times.L0 acc u xs (xs.length : Int) i = some (encTs (timesR acc u (decide (i = 0)) ((xs.drop i.toNat).map fun x => ptS (bytesOf x)))) := by
  intro k
  induction k with
  | zero =>
    intro i acc u h1 h2 h3
    rw [drop_nil_ (by omega), value_Times.L0_eq, if_neg (by omega)]
    rfl
  | succ k ih =>
    intro i acc u h1 h2 h3
    have hi : i < (xs.length : Int) := by omega
    have hm := hx _ (rdOf_mem ByteArray.empty h2 hi)
    rw [drop_cons_ ByteArray.empty h2 hi, value_Times.L0_eq, if_pos hi, if_pos h2, if_pos hi, ParseTime_eq _ hm, bind_some_, List.map_cons]
    generalize rdOf ByteArray.empty xs i = x at *
    cases hp : ptS (bytesOf x) with
    | none => rw [if_neg (by simp [encT])]; rfl
    | some p =>
      obtain ⟨t, v⟩ := p
      have go : value_Times.L0 (acc ++ [t]) v xs (xs.length : Int) (wrap64 (i + 1)) = some (encTs (timesR (acc ++ [t]) v false ((xs.drop (i + 1).toNat).map fun x => ptS (bytesOf x)))) := by
        rw [wrap64_id (by omega) (by omega), ih (i + 1) (acc ++ [t]) v (by omega) (by omega) (by rw [List.length_append, List.length_singleton]; omega), decide_eq_false (by omega)]
      have ht : acc.length < 17592186044416 := by omega
      show (if (0 : Int) = 0 then _ else _) = _
      rw [if_pos rfl]
      show (if i > 0 then (if (v != u) = true then _ else (if acc.length < 17592186044416 then value_Times.L0 (acc ++ [t]) v xs (xs.length : Int) (wrap64 (i + 1)) else none)) else (if acc.length < 17592186044416 then value_Times.L0 (acc ++ [t]) v xs (xs.length : Int) (wrap64 (i + 1)) else none)) = _
      rw [if_pos ht, go, timesR]
      by_cases h0 : i > 0
      · rw [if_pos h0, decide_eq_false (by omega)]
        by_cases hv : v = u
        · rw [if_neg (by simp [hv]), if_neg (by simp [hv])]
        · rw [if_pos (by simpa using hv), if_pos ⟨rfl, hv⟩]; rfl
      · rw [if_neg h0, decide_eq_true (by omega), if_neg (by simp)]
theorem Times_eq (s : ByteArray) (hs : s.size < 4294967281) : value_Times.F s = some (encTs (tsS (bytesOf s))) := by
  have hlen : ∀ y ∈ (spl 44 (bytesOf s)).map strOfNums, y.size ≤ 9223372036854775807 := by
    intro y hy
    obtain ⟨z, hz, rfl⟩ := List.mem_map.1 hy
    have := spl_len _ z hz
    rw [bytesOf_length] at this
    rw [size_strOf]
    omega
  have hn : ((spl 44 (bytesOf s)).map strOfNums).length ≤ s.size + 1 := by
    rw [List.length_map]
    have : ∀ l : List Int, (spl 44 l).length ≤ l.length + 1 := by
      intro l
      induction l with
      | nil => simp [spl]
      | cons x l ih =>
        rw [spl]
        split
        · simp only [List.length_cons]; omega
        · split
          · simp
          · rename_i z zs hz
            rw [hz] at ih
            simp only [List.length_cons] at ih ⊢
            omega
    have h := this (bytesOf s)
    rw [bytesOf_length] at h
    exact h
  have h := Times_L0 _ hlen (by omega) ((spl 44 (bytesOf s)).map strOfNums).length 0 [] false (by omega) (by omega) (by simp)
  have e44 : ((44 : UInt8).toNat : Int) = 44 := rfl
  rw [value_Times.F_eq, split_f_eq 44 hs, bind_some_, e44, h]
  have e : (((spl 44 (bytesOf s)).map strOfNums).drop (0 : Int).toNat).map (fun x => ptS (bytesOf x)) = (spl 44 (bytesOf s)).map ptS := by
    rw [show (0 : Int).toNat = 0 from rfl, List.drop_zero, List.map_map]
    refine List.map_congr_left fun y hy => ?_
    show ptS (bytesOf (strOfNums y)) = ptS y
    rw [bytes_strOf (spl_bytes (bytes_of s) y hy)]
  rw [e]
  rfl
theorem timesR_some {rs : List (Option (Int × Bool))} : ∀ {acc : List Int} {u f : Bool} {l : List Int} {v : Bool}, timesR acc u f rs = some (l, v) → (f = false → u = v) ∧ ∀ p ∈ rs, ∃ t, p = some (t, v) := by
  induction rs with
  | nil => intro acc u f l v h; rw [timesR] at h; simp only [Option.some.injEq, Prod.mk.injEq] at h; exact ⟨fun _ => h.2, fun p hp => by cases hp⟩
  | cons p rs ih =>
    intro acc u f l v h
    cases p with
    | none => rw [timesR] at h; cases h
    | some p =>
      obtain ⟨t, b⟩ := p
      rw [timesR] at h
      split at h
      · cases h
      · rename_i hn
        obtain ⟨h1, h2⟩ := ih h
        have hb := h1 rfl
        subst hb
        refine ⟨fun hf => ?_, fun p hp => ?_⟩
        · by_cases e : b = u
          · exact e.symm
          · exact absurd ⟨hf, e⟩ hn
        · rcases List.mem_cons.1 hp with rfl | hp
          · exact ⟨t, rfl⟩
          · exact h2 p hp
theorem timesR_all (u : Bool) : ∀ (ts : List Int) (acc : List Int) (v f : Bool), (f = false → v = u) → (ts = [] → v = u) → timesR acc v f (ts.map fun t => some (t, u)) = some (acc ++ ts, u) := by
  intro ts
  induction ts with
  | nil => intro acc v f h1 h2; rw [h2 rfl, List.append_nil]; rfl
  | cons t ts ih =>
    intro acc v f h1 _
    rw [List.map_cons, timesR, if_neg (fun h => h.2 (h1 h.1).symm), ih (acc ++ [t]) u false (fun _ => rfl) (fun _ => rfl), List.append_assoc]
    rfl
theorem Ints_L0 (a b : List Int) (hl : (a.length : Int) = b.length) (hb : (a.length : Int) ≤ 9223372036854775806) : ∀ (k : Nat) (i : Int), i + k = a.length → 0 ≤ i → solsticekeep_Ints.L0 a b i = some (decide (a.drop i.toNat = b.drop i.toNat)) := by
  intro k
  induction k with
  | zero =>
    intro i h1 h2
    rw [solsticekeep_Ints.L0_eq, if_neg (by omega), drop_nil_ (by omega), drop_nil_ (by omega)]
    rfl
  | succ k ih =>
    intro i h1 h2
    rw [solsticekeep_Ints.L0_eq, if_pos (by omega), if_pos h2, if_pos (by omega), drop_cons_ 0 h2 (by omega), drop_cons_ 0 h2 (l := b) (by omega), wrap64_id (by omega) (by omega), ih (i + 1) (by omega) (by omega)]
    by_cases h : rd a i = rd b i
    · rw [if_pos h]
      congr 1
      apply decide_eq_decide.2
      rw [List.cons.injEq]
      exact ⟨fun e => ⟨h, e⟩, fun e => e.2⟩
    · rw [if_neg h]
      congr 1
      refine (decide_eq_false fun e => h ?_).symm
      injection e
theorem Ints_eq (a b : List Int) (hb : (a.length : Int) ≤ 9223372036854775806) : solsticekeep_Ints.F a b = some (decide (a = b)) := by
  rw [solsticekeep_Ints.F_eq]
  by_cases h : (a.length : Int) = (b.length : Int)
  · rw [if_pos h, Ints_L0 a b h hb a.length 0 (by omega) (by omega)]
    rfl
  · rw [if_neg h]
    congr 1
    refine (decide_eq_false fun e => h ?_).symm
    rw [e]
end Go.Proofs.YtligbecmbefclaaDoor.Base
