-- A text of the kit's tools for this claim, its remarks left out.
import Derived.Test.YtjanombhdnoemaaGreatDoorValC
import Derived.Test.YtjanombhdnoemaaGreatDoorNumT
import Derived.Test.YtjanombhdnoemaaGreatDoorERechRecE
import Derived.Test.YtjanombhdnoemaaGreatDoorStr
import Derived.Lib.SplitLaws
import Derived.Lib.IndexLaws
import Derived.Lib.Strings
import Derived.Test.YtjanombhdnoemaaGreatDoorPRecx7
import Derived.Test.YtjanombhdnoemaaGreatDoorValT
import Derived.Lib.IndexBytes
import Derived.Lib.IndexMore
import Derived.Test.YtjanombhdnoemaaGreatDoorERecx11
import Derived.Test.YtjanombhdnoemaaGreatDoorERecx12
import Derived.Test.YtjanombhdnoemaaGreatDoorValU
import Derived.Test.YtjanombhdnoemaaGreatDoorERechRecQ
-- A text of the kit's tools for this claim, its remarks left out.
-- A text of the kit's tools for this claim, its remarks left out.
namespace Go.Proofs.YtjanombhdnoemaaGreatDoor.Base
open Go.RowKit Go.Proofs.YtjanombhdnoemaaGreatDoor.PRec Go.Proofs.YtjanombhdnoemaaGreatDoorW.PrintWords Go.Proofs.YtjanombhdnoemaaGreatDoorW.PrintLast Go.Proofs.YtjanombhdnoemaaGreatDoorW.PrintMore
set_option linter.unusedVariables false
set_option linter.unusedSimpArgs false
def dup {α : Type} [DecidableEq α] : List α → List α → Bool
 | _, [] => false
 | y, x :: r => if RecM.hasB y x = true then true else dup (y ++ [x]) r
theorem dup_false {α : Type} [DecidableEq α] : ∀ (r y : List α), dup y r = false ↔ (r.Nodup ∧ ∀ x ∈ r, x ∉ y)
 | [], y => by simp [dup]
 | x :: r, y => by
  rw [dup]
  by_cases h : RecM.hasB y x = true
  ·rw [if_pos h]
   have hm := RecM.hasB_iff.1 h
   simp [hm]
  ·rw [if_neg h, dup_false r (y ++ [x]), List.nodup_cons]
   have hm : x ∉ y := fun hm => h (RecM.hasB_iff.2 hm)
   constructor
   ·rintro ⟨h1, h2⟩
    refine ⟨⟨fun hx => h2 x hx (List.mem_append_right _ (List.mem_singleton.2 rfl)), h1⟩, fun z hz => ?_⟩
    rcases List.mem_cons.1 hz with rfl | hz
    ·exact hm
    ·exact fun hy => h2 z hz (List.mem_append_left _ hy)
   ·rintro ⟨⟨h1, h2⟩, h3⟩
    refine ⟨h2, fun z hz hy => ?_⟩
    rcases List.mem_append.1 hy with hy | hy
    ·exact h3 z (List.mem_cons_of_mem _ hz) hy
    ·rw [List.mem_singleton] at hy
     exact h1 (hy ▸ hz)
theorem dup_nil {α : Type} [DecidableEq α] (r : List α) : dup [] r = !decide r.Nodup := by
 have h := dup_false r []
 by_cases hd : r.Nodup
 ·rw [h.2 ⟨hd, fun _ _ => by simp⟩, decide_eq_true hd]; rfl
 ·rw [decide_eq_false hd]
  cases hb : dup [] r with
  | true => rfl
  | false => exact absurd (h.1 hb).1 hd
def In64 (x : Int) : Prop := -9223372036854775808 ≤ x ∧ x ≤ 9223372036854775807
theorem twI_L0 (xs : List Int) (hx : ∀ x ∈ xs, In64 x) (hl : xs.length < 1000000000) : ∀ (n : Nat) (i : Int) (y : List Int), n = xs.length - i.toNat → 0 ≤ i → i ≤ (xs.length : Int) → (y.length : Int) ≤ i → recur_twice_int.L0 xs y i = some (dup y (xs.drop i.toNat)) := by
 intro n
 induction n with
 | zero =>
  intro i y hn h0 h1 hy
  rw [recur_twice_int.L0_eq, if_neg (by omega), drop_nil_ (by omega)]
  rfl
 | succ n ih =>
  intro i y hn h0 h1 hy
  have hi : i < (xs.length : Int) := by omega
  rw [recur_twice_int.L0_eq, if_pos hi, if_pos h0, drop_cons_ 0 h0 hi, dup, show rd xs i = rdOf 0 xs i from rfl, if_pos (show -9223372036854775808 ≤ rdOf 0 xs i ∧ rdOf 0 xs i ≤ 9223372036854775807 from hx _ (rdOf_mem 0 h0 hi))]
  by_cases h : RecM.hasB y (rdOf 0 xs i) = true
  ·rw [if_pos h, if_pos h]
  ·rw [if_neg h, if_neg h, if_pos (by omega), wrap64_id (by omega) (by omega)]
   exact ih (i + 1) _ (by omega) (by omega) (by omega) (by rw [List.length_append, List.length_singleton]; omega)
theorem twI_eq (xs : List Int) (hx : ∀ x ∈ xs, In64 x) (hl : xs.length < 1000000000) : recur_twice_int.F xs = some (dup [] xs) := by
 rw [recur_twice_int.F_eq, twI_L0 xs hx hl _ 0 [] rfl (by omega) (by omega) (by simp)]
 rfl
def In38 (x : S38) : Prop := In64 x.f0 ∧ In64 x.f1
theorem twD_L0 (xs : List S38) (hx : ∀ x ∈ xs, In38 x) (hl : xs.length < 1000000000) : ∀ (n : Nat) (i : Int) (y : List S38), n = xs.length - i.toNat → 0 ≤ i → i ≤ (xs.length : Int) → (y.length : Int) ≤ i → recur_twiceD.L0 xs y i = some (dup y (xs.drop i.toNat)) := by
 intro n
 induction n with
 | zero =>
  intro i y hn h0 h1 hy
  rw [recur_twiceD.L0_eq, if_neg (by omega), drop_nil_ (by omega)]
  rfl
 | succ n ih =>
  intro i y hn h0 h1 hy
  have hi : i < (xs.length : Int) := by omega
  rw [recur_twiceD.L0_eq, if_pos hi, if_pos h0, drop_cons_ z38 h0 hi, dup, show rd_T38 xs i = rdOf z38 xs i from rfl, if_pos (show (-9223372036854775808 ≤ (rdOf z38 xs i).f0 ∧ (rdOf z38 xs i).f0 ≤ 9223372036854775807) ∧ (-9223372036854775808 ≤ (rdOf z38 xs i).f1 ∧ (rdOf z38 xs i).f1 ≤ 9223372036854775807) from hx _ (rdOf_mem z38 h0 hi))]
  by_cases h : RecM.hasB y (rdOf z38 xs i) = true
  ·rw [if_pos h, if_pos h]
  ·rw [if_neg h, if_neg h, if_pos (by omega), wrap64_id (by omega) (by omega)]
   exact ih (i + 1) _ (by omega) (by omega) (by omega) (by rw [List.length_append, List.length_singleton]; omega)
theorem twD_eq (xs : List S38) (hx : ∀ x ∈ xs, In38 x) (hl : xs.length < 1000000000) : recur_twiceD.F xs = some (dup [] xs) := by
 rw [recur_twiceD.F_eq, twD_L0 xs hx hl _ 0 [] rfl (by omega) (by omega) (by simp)]
 rfl
theorem twS_L0 (xs : List ByteArray) (hx : ∀ x ∈ xs, x.size ≤ 140737488351232) (hl : xs.length < 1000000000) : ∀ (n : Nat) (i : Int) (y : List ByteArray), n = xs.length - i.toNat → 0 ≤ i → i ≤ (xs.length : Int) → (y.length : Int) ≤ i → recur_twice_string.L0 xs y i = some (dup y (xs.drop i.toNat)) := by
 intro n
 induction n with
 | zero =>
  intro i y hn h0 h1 hy
  rw [recur_twice_string.L0_eq, if_neg (by omega), drop_nil_ (by omega)]
  rfl
 | succ n ih =>
  intro i y hn h0 h1 hy
  have hi : i < (xs.length : Int) := by omega
  rw [recur_twice_string.L0_eq, if_pos hi, if_pos h0, drop_cons_ ByteArray.empty h0 hi, dup, if_pos (hx _ (rdOf_mem ByteArray.empty h0 hi))]
  by_cases h : RecM.hasB y (rdOf ByteArray.empty xs i) = true
  ·rw [if_pos h, if_pos h]
  ·rw [if_neg h, if_neg h, if_pos (by omega), wrap64_id (by omega) (by omega)]
   exact ih (i + 1) _ (by omega) (by omega) (by omega) (by rw [List.length_append, List.length_singleton]; omega)
theorem twS_eq (xs : List ByteArray) (hx : ∀ x ∈ xs, x.size ≤ 140737488351232) (hl : xs.length < 1000000000) : recur_twice_string.F xs = some (dup [] xs) := by
 rw [recur_twice_string.F_eq, twS_L0 xs hx hl _ 0 [] rfl (by omega) (by omega) (by simp)]
 rfl
def okL (lo hi : Int) (ng : Bool) (l : List Int) : Bool := !(l.any (wrI lo hi ng)) && !(dup [] l)
def Len9 {α : Type} (l : List α) : Prop := l.length < 100000000
def RowI (l : List Int) : Prop := (∀ x ∈ l, In64 x) ∧ Len9 l
theorem lright_eq (lo hi : Int) (ng : Bool) (l : List Int) (h : RowI l) : recur_right.F lo hi ng l = some (okL lo hi ng l) := by
 rw [recur_right.F_eq]
 unfold okL
 by_cases hw : l.any (wrI lo hi ng) = true
 ·rw [if_pos hw, hw]; rfl
 ·rw [if_neg hw, twI_eq l h.1 (by have := h.2; unfold Len9 at this; omega), bind_some_]
  rw [Bool.not_eq_true] at hw
  rw [hw]; rfl
def okD (a0 : Int) (l12 : List Int) (d : List S38) : Bool := !(d.any (wrD ((a0 == 6 || a0 == 7) && ((l12.length : Int) == 0)))) && !(dup [] d)
theorem days_eq (a0 : Int) (l12 : List Int) (d : List S38) (h : ∀ x ∈ d, In38 x) (hl : Len9 d) : recur_days.F a0 l12 d = some (okD a0 l12 d) := by
 rw [recur_days.F_eq]
 unfold okD
 by_cases hw : d.any (wrD ((a0 == 6 || a0 == 7) && ((l12.length : Int) == 0))) = true
 ·rw [if_pos hw, hw]; rfl
 ·rw [if_neg hw, twD_eq d h (by unfold Len9 at hl; omega), bind_some_]
  rw [Bool.not_eq_true] at hw
  rw [hw]; rfl
def yearB (t : Int) : Bool := decide (-719162 ≤ t / 86400 ∧ t / 86400 < 2932897)
theorem Split_eq (n : Int) (h : In64 n) : clock_Split.f n = some (n / 86400, n % 86400) := by
 have h' := h
 unfold In64 at h'
 have := tdiv_wrap (a := n) (b := 86400) (by omega) h (by omega)
 unfold clock_Split.f
 split at this
 ·rename_i hn; rw [if_pos hn, this]
 ·rename_i hn; rw [if_neg hn, this]
theorem year_eq (t : Int) (h : In64 t) : recur_year.F t = some (yearB t) := by
 rw [recur_year.F_eq, Split_eq t h, bind_some_]
 unfold yearB
 by_cases hr : -719528 ≤ t / 86400 ∧ t / 86400 < 2933263
 ·obtain ⟨y, m, d, hd, e, hF⟩ := Date_ex hr
  rw [hF, bind_some_, if_pos rfl]
  have hin := dn_in hd
  rw [← e] at hin
  obtain ⟨hy0, hy1, _⟩ := hd
  by_cases h1 : y ≥ 1
  ·rw [if_pos h1]
   congr 1
   rw [decide_eq_decide]
   have m1 := ah_mono (x := 1) (y := y) h1
   have e1 : ah 1 = 366 := by decide
   constructor
   ·intro h2
    have m2 := ah_mono (x := y + 1) (y := 10000) (by omega)
    have e2 : ah 10000 = 3652425 := by decide
    omega
   ·intro h2
    rcases Int.lt_or_le 9999 y with h3 | h3
    ·have m2 := ah_mono (x := 10000) (y := y) (by omega)
     have e2 : ah 10000 = 3652425 := by decide
     omega
    ·exact h3
  ·rw [if_neg h1, decide_eq_false]
   have e0 : y = 0 := by omega
   subst e0
   have e1 : ah (0 + 1) = 366 := by decide
   omega
 ·rw [Date_out (by omega), bind_some_, if_neg (by decide), decide_eq_false (by omega)]
def okE (c : Int) (u : Bool) (t : Int) (z : Bool) : Bool := decide (0 ≤ c) && (decide (c ≤ 100000) && (if u = true then decide (c = 0) && yearB t else decide (t = 0) && !z))
theorem ends_eq (a0 a1 a2 : Int) (a3 : Bool) (a4 : Int) (a5 : Bool) (l6 l7 l8 : List Int) (l9 : List S38) (l10 l11 l12 l13 l14 : List Int) (a15 : Int) (h : In64 a4) : recur_ends.F a0 a1 a2 a3 a4 a5 l6 l7 l8 l9 l10 l11 l12 l13 l14 a15 = some (okE a2 a3 a4 a5) := by
 rw [recur_ends.F_eq]
 unfold okE
 by_cases h1 : a2 < 0
 ·rw [if_pos h1, recur_ends.J0_eq, if_pos rfl, decide_eq_false (by omega)]; rfl
 ·rw [if_neg h1, decide_eq_true (by omega : 0 ≤ a2), Bool.true_and]
  by_cases h2 : a2 > 100000
  ·rw [if_pos h2, recur_ends.J0_eq, if_pos rfl, decide_eq_false (by omega)]; rfl
  ·rw [if_neg h2, decide_eq_true (by omega : a2 ≤ 100000), Bool.true_and]
   cases a3 with
   | true =>
    rw [if_pos rfl, if_pos rfl, recur_ends.J0_eq]
    by_cases h3 : a2 > 0
    ·rw [decide_eq_true h3, if_pos rfl, decide_eq_false (by omega)]; rfl
    ·rw [decide_eq_false h3, if_neg (by decide), if_pos rfl, year_eq a4 h, bind_some_, decide_eq_true (by omega), Bool.true_and]
   | false =>
    rw [if_neg (by decide), if_neg (by decide), recur_ends.J0_eq, if_neg (by decide), if_neg (by decide)]
    by_cases h3 : a4 = 0
    ·rw [if_pos h3, decide_eq_true h3, Bool.true_and]
    ·rw [if_neg h3, decide_eq_false h3]; rfl
end Go.Proofs.YtjanombhdnoemaaGreatDoor.Base

-- A text of the kit's tools for this claim, its remarks left out.
namespace Go.Proofs.YtjanombhdnoemaaGreatDoor.Base
open Go.RowKit Go.Proofs.YtjanombhdnoemaaGreatDoor.PRec Go.Proofs.YtjanombhdnoemaaGreatDoorW.PrintWords Go.Proofs.YtjanombhdnoemaaGreatDoorW.PrintLast Go.Proofs.YtjanombhdnoemaaGreatDoorW.PrintMore
set_option linter.unusedVariables false
set_option linter.unusedSimpArgs false
def spl (c : Int) : List Int → List (List Int)
 | [] => [[]]
 | x :: l => if x = c then [] :: spl c l else match spl c l with | [] => [[x]] | y :: ys => (x :: y) :: ys
theorem spl_no {c : Int} : ∀ {l : List Int}, (∀ x ∈ l, x ≠ c) → spl c l = [l]
 | [], _ => rfl
 | x :: l, h => by
  rw [spl, if_neg (h x (List.mem_cons_self ..)), spl_no (fun y hy => h y (List.mem_cons_of_mem _ hy))]
theorem spl_hit {c : Int} {b : List Int} : ∀ {a : List Int}, (∀ x ∈ a, x ≠ c) → spl c (a ++ c :: b) = a :: spl c b
 | [], _ => by rw [List.nil_append, spl, if_pos rfl]
 | x :: a, h => by
  rw [List.cons_append, spl, if_neg (h x (List.mem_cons_self ..)), spl_hit (fun y hy => h y (List.mem_cons_of_mem _ hy))]
theorem spl_bytes {c : Int} : ∀ {l : List Int}, Bytes l → ∀ y ∈ spl c l, Bytes y
 | [], _, y, hy => by
  rw [spl, List.mem_singleton] at hy
  rw [hy]
  exact Bytes.nil
 | x :: l, h, y, hy => by
  have ih := spl_bytes (c := c) h.tail
  rw [spl] at hy
  split at hy
  ·rcases List.mem_cons.1 hy with rfl | hy
   ·exact Bytes.nil
   ·exact ih y hy
  ·split at hy
   ·rw [List.mem_singleton] at hy
    rw [hy]
    exact Bytes.cons h.head.1 h.head.2 Bytes.nil
   ·rename_i z zs hz
    rcases List.mem_cons.1 hy with rfl | hy
    ·exact Bytes.cons h.head.1 h.head.2 (ih z (by rw [hz]; exact List.mem_cons_self ..))
    ·exact ih y (by rw [hz]; exact List.mem_cons_of_mem _ hy)
theorem split_spl (c : UInt8) : ∀ (k : Nat) (s : ByteArray), Lib.countB s ⟨#[c]⟩ = k → Lib.splitB ⟨#[c]⟩ 0 k s = (spl (c.toNat : Int) (bytesOf s)).map strOfNums := by
 have hsz : (⟨#[c]⟩ : ByteArray).size = 1 := rfl
 have h1 : 1 ≤ (⟨#[c]⟩ : ByteArray).size := by rw [hsz]; exact Nat.le_refl _
 have hix : ∀ s : ByteArray, Lib.indexB s ⟨#[c]⟩ = Lib.indexByte s.data.toList c := fun s => Lib.index_one _ _
 have hne : ∀ b : UInt8, b ≠ c → (b.toNat : Int) ≠ (c.toNat : Int) := fun b hb h => hb (UInt8.toNat_inj.1 (by omega))
 have miss : ∀ s : ByteArray, Lib.indexB s ⟨#[c]⟩ = -1 → spl (c.toNat : Int) (bytesOf s) = [bytesOf s] := by
  intro s h
  rw [hix] at h
  refine spl_no fun x hx => ?_
  unfold bytesOf at hx
  obtain ⟨b, hb, rfl⟩ := List.mem_map.1 hx
  refine hne b fun e => ?_
  subst e
  obtain ⟨j, hj, e⟩ := List.getElem_of_mem hb
  exact Lib.indexByte_none h j (by rw [List.getElem?_eq_getElem hj, e])
 intro k
 induction k with
 | zero =>
  intro s hk
  rcases Lib.indexB_cases s ⟨#[c]⟩ with hi | ⟨i, hi, _⟩
  ·rw [Lib.splitB_zero, miss s hi, List.map_cons, List.map_nil, strOf_bytes]
  ·have := Lib.countB_hit s ⟨#[c]⟩ i h1 hi
   omega
 | succ k ih =>
  intro s hk
  rcases Lib.indexB_cases s ⟨#[c]⟩ with hi | ⟨i, hi, hroom⟩
  ·rw [Lib.countB_miss s _ hi] at hk
   omega
  ·have hc := Lib.countB_hit s ⟨#[c]⟩ i h1 hi
   rw [Lib.splitB_hit _ _ _ _ i hi, ih _ (by omega)]
   have hi' := hi
   rw [hix] at hi'
   obtain ⟨g1, g2⟩ := Lib.indexByte_some hi'
   have hlen : i < s.data.toList.length := (List.getElem?_eq_some_iff.1 g1).1
   have hl : i < (s.data.toList.map (fun b : UInt8 => (b.toNat : Int))).length := by rw [List.length_map]; exact hlen
   have e1 : (s.data.toList.map (fun b : UInt8 => (b.toNat : Int)))[i]'hl = (c.toNat : Int) := by
    rw [List.getElem_map]
    rw [List.getElem?_eq_getElem hlen] at g1
    rw [Option.some.inj g1]
   have e : bytesOf s = (bytesOf s).take i ++ (c.toNat : Int) :: (bytesOf s).drop (i + 1) := by
    show s.data.toList.map (fun b : UInt8 => (b.toNat : Int)) = (s.data.toList.map (fun b : UInt8 => (b.toNat : Int))).take i ++ (c.toNat : Int) :: (s.data.toList.map (fun b : UInt8 => (b.toNat : Int))).drop (i + 1)
    rw [← e1, List.getElem_cons_drop, List.take_append_drop]
   have hno : ∀ x ∈ (bytesOf s).take i, x ≠ (c.toNat : Int) := by
    intro x hx
    have hx' : x ∈ (s.data.toList.take i).map (fun b : UInt8 => (b.toNat : Int)) := by rw [List.map_take]; exact hx
    obtain ⟨b, hb, rfl⟩ := List.mem_map.1 hx'
    refine hne _ fun e' => ?_
    subst e'
    obtain ⟨j, hj, ex⟩ := List.getElem_of_mem hb
    rw [List.getElem_take] at ex
    rw [List.length_take] at hj
    refine g2 j (by omega) ?_
    have hjl : j < s.data.toList.length := by omega
    rw [List.getElem?_eq_getElem hjl, ex]
   have e2 : bytesOf (s.extract (i + (⟨#[c]⟩ : ByteArray).size) s.size) = (bytesOf s).drop (i + 1) := by rw [hsz, extract_all]
   have e3 : s.extract 0 (i + 0) = strOfNums ((bytesOf s).take i) := bytes_inj (by rw [bytes_extract, bytes_strOf (fun x hx => bytes_of s x (List.mem_of_mem_take hx))]; rfl)
   rw [e2, e3]
   conv => rhs; rw [e, spl_hit hno]
   rw [List.map_cons]
theorem split_f_eq {s : ByteArray} (c : UInt8) (hs : s.size < 4294967281) : strings_Split.f s ⟨#[c]⟩ = some ((spl (c.toNat : Int) (bytesOf s)).map strOfNums) := by
 have h1 : 1 ≤ (⟨#[c]⟩ : ByteArray).size := Nat.le_refl 1
 have hle := Lib.countB_le ⟨#[c]⟩ h1 s.size s (Nat.le_refl _)
 unfold strings_Split.f
 rw [if_pos ⟨hs, h1, Lib.splitB_all _ h1 0 _ s rfl, by omega⟩, split_spl c _ s rfl]
theorem spl_len {c : Int} : ∀ (l : List Int), ∀ y ∈ spl c l, y.length ≤ l.length
 | [], y, hy => by
  rw [spl, List.mem_singleton] at hy
  rw [hy]; simp
 | x :: l, y, hy => by
  have ih := spl_len (c := c) l
  rw [spl] at hy
  split at hy
  ·rcases List.mem_cons.1 hy with rfl | hy
   ·simp
   ·have := ih y hy
    rw [List.length_cons]; omega
  ·split at hy
   ·rw [List.mem_singleton] at hy
    rw [hy]; simp
   ·rename_i z zs hz
    rcases List.mem_cons.1 hy with rfl | hy
    ·have := ih z (by rw [hz]; exact List.mem_cons_self ..)
     simp only [List.length_cons]; omega
    ·have := ih y (by rw [hz]; exact List.mem_cons_of_mem _ hy)
     rw [List.length_cons]; omega
theorem spl_jn {c : Int} : ∀ {ps : List (List Int)}, ps ≠ [] → (∀ p ∈ ps, ∀ x ∈ p, x ≠ c) → spl c (jn [c] ps) = ps
 | [], h, _ => absurd rfl h
 | [p], _, h => spl_no (h p (List.mem_cons_self ..))
 | p :: q :: ps, _, h => by
  rw [jn, List.singleton_append, spl_hit (h p (List.mem_cons_self ..)), spl_jn (by simp) (fun x hx => h x (List.mem_cons_of_mem _ hx))]
end Go.Proofs.YtjanombhdnoemaaGreatDoor.Base

namespace Go.Proofs.YtjanombhdnoemaaGreatDoor.Base
open Go.RowKit Go.Proofs.YtjanombhdnoemaaGreatDoor.PRec Go.Proofs.YtjanombhdnoemaaGreatDoorW.PrintWords Go.Proofs.YtjanombhdnoemaaGreatDoorW.PrintLast Go.Proofs.YtjanombhdnoemaaGreatDoorW.PrintMore
set_option linter.unusedVariables false
set_option linter.unusedSimpArgs false
theorem toNat_ne {b c : UInt8} (h : b ≠ c) : (b.toNat : Int) ≠ (c.toNat : Int) := fun e => h (UInt8.toNat_inj.1 (by omega))
theorem byte_cases (l : List UInt8) (c : UInt8) : (Lib.indexByte l c = -1 ∧ c ∉ l) ∨ ∃ A B : List UInt8, l = A ++ c :: B ∧ c ∉ A ∧ Lib.indexByte l c = (A.length : Int) := by
 have hge := Lib.indexByte_ge l c
 by_cases h : Lib.indexByte l c = -1
 ·left
  refine ⟨h, fun hm => ?_⟩
  obtain ⟨j, hj, e⟩ := List.getElem_of_mem hm
  exact Lib.indexByte_none h j (by rw [List.getElem?_eq_getElem hj, e])
 ·right
  obtain ⟨i, hi⟩ : ∃ i : Nat, Lib.indexByte l c = i := ⟨(Lib.indexByte l c).toNat, by omega⟩
  obtain ⟨g1, g2⟩ := Lib.indexByte_some hi
  have hl : i < l.length := (List.getElem?_eq_some_iff.1 g1).1
  have e1 : l[i] = c := by
   rw [List.getElem?_eq_getElem hl] at g1
   exact Option.some.inj g1
  refine ⟨l.take i, l.drop (i + 1), ?_, fun hm => ?_, by rw [List.length_take]; omega⟩
  ·rw [← e1, List.getElem_cons_drop, List.take_append_drop]
  ·obtain ⟨j, hj, e⟩ := List.getElem_of_mem hm
   rw [List.getElem_take] at e
   rw [List.length_take] at hj
   have hjl : j < l.length := by omega
   exact g2 j (by omega) (by rw [List.getElem?_eq_getElem hjl, e])
theorem not_mem_bytes {l : List UInt8} {c : UInt8} (h : c ∉ l) : (c.toNat : Int) ∉ l.map (fun b => (b.toNat : Int)) := fun hm => by
 obtain ⟨b, hb, e⟩ := List.mem_map.1 hm
 by_cases hbc : b = c
 ·subst hbc; exact h hb
 ·exact toNat_ne hbc e
theorem bytes_split {s : ByteArray} {A B : List UInt8} {c : UInt8} (h : s.data.toList = A ++ c :: B) : bytesOf s = A.map (fun b => (b.toNat : Int)) ++ (c.toNat : Int) :: B.map (fun b => (b.toNat : Int)) := by
 unfold bytesOf
 rw [h, List.map_append, List.map_cons]
theorem idx_cases (s : ByteArray) (c : UInt8) : (Lib.indexByte s.data.toList c = -1 ∧ (c.toNat : Int) ∉ bytesOf s) ∨ ∃ A B : List Int, bytesOf s = A ++ (c.toNat : Int) :: B ∧ (c.toNat : Int) ∉ A ∧ Lib.indexByte s.data.toList c = (A.length : Int) := by
 rcases byte_cases s.data.toList c with ⟨h1, h2⟩ | ⟨A, B, h1, h2, h3⟩
 ·exact Or.inl ⟨h1, not_mem_bytes h2⟩
 ·exact Or.inr ⟨_, _, bytes_split h1, not_mem_bytes h2, by rw [h3, List.length_map]⟩
theorem tail1 (s : ByteArray) : s.extract 1 s.size = strOfNums (bytesOf s).tail := by
 apply bytes_inj
 have hb : Bytes (bytesOf s).tail := fun x hx => bytes_of s x (List.mem_of_mem_tail hx)
 rw [extract_all, bytes_strOf hb, List.drop_one]
def cutS (c : Int) : List Int → Option (List Int × List Int)
 | [] => none
 | x :: l => if x = c then some ([], l) else (cutS c l).map fun p => (x :: p.1, p.2)
theorem cutS_no {c : Int} : ∀ {l : List Int}, c ∉ l → cutS c l = none
 | [], _ => rfl
 | x :: l, h => by
  unfold cutS
  rw [if_neg (fun (e : x = c) => h (by rw [e]; exact List.mem_cons_self ..)), cutS_no (fun hm => h (List.mem_cons_of_mem _ hm))]
  rfl
theorem cutS_hit {c : Int} {B : List Int} : ∀ {A : List Int}, c ∉ A → cutS c (A ++ c :: B) = some (A, B)
 | [], _ => by
  show (if c = c then _ else _) = _
  rw [if_pos rfl]
 | x :: A, h => by
  show (if x = c then some ([], A ++ c :: B) else (cutS c (A ++ c :: B)).map fun p => (x :: p.1, p.2)) = _
  rw [if_neg (fun (e : x = c) => h (by rw [e]; exact List.mem_cons_self ..)), cutS_hit (fun hm => h (List.mem_cons_of_mem _ hm))]
  rfl
theorem cutS_some {c : Int} {B : List Int} : ∀ {l A : List Int}, cutS c l = some (A, B) → l = A ++ c :: B ∧ c ∉ A
 | [], _, h => by cases h
 | x :: l, A, h => by
  unfold cutS at h
  split at h
  ·rename_i e
   simp only [Option.some.injEq, Prod.mk.injEq] at h
   obtain ⟨rfl, rfl⟩ := h
   subst e
   exact ⟨rfl, by simp⟩
  ·rename_i e
   obtain ⟨⟨A', B'⟩, h1, h2⟩ := Option.map_eq_some_iff.1 h
   simp only [Prod.mk.injEq] at h2
   obtain ⟨rfl, rfl⟩ := h2
   obtain ⟨g1, g2⟩ := cutS_some h1
   refine ⟨by rw [g1]; rfl, fun hm => ?_⟩
   rcases List.mem_cons.1 hm with h' | h'
   ·exact e h'.symm
   ·exact g2 h'
theorem Cut_eq (s : ByteArray) (c : UInt8) (hs : s.size < 4294967281) : strings_Cut.f s (⟨#[c]⟩ : ByteArray) = some (match cutS (c.toNat : Int) (bytesOf s) with | some (A, B) => (strOfNums A, strOfNums B, true) | none => (s, (⟨#[]⟩ : ByteArray), false)) := by
 have hb0 : ∀ l : List UInt8, bytesOf ⟨l.toArray⟩ = l.map fun b => (b.toNat : Int) := fun l => rfl
 have hb1 : bytesOf s = s.data.toList.map fun b => (b.toNat : Int) := rfl
 unfold strings_Cut.f Lib.cut
 rw [if_pos (by omega), show (⟨#[c]⟩ : ByteArray).data.toList = [c] from rfl, Lib.index_one]
 rcases idx_cases s c with ⟨i1, i2⟩ | ⟨A, B, i1, i2, i3⟩
 ·rw [i1, if_neg (by decide), cutS_no i2]
 ·have hb := bytes_of s
  rw [i1] at hb
  have e1 : (⟨(s.data.toList.take ((A.length : Nat) : Int).toNat).toArray⟩ : ByteArray) = strOfNums A := by
   apply bytes_inj
   rw [bytes_strOf hb.left, hb0, List.map_take, ← hb1, i1, Int.toNat_natCast, List.take_left]
  have e2 : (⟨(s.data.toList.drop (((A.length : Nat) : Int).toNat + [c].length)).toArray⟩ : ByteArray) = strOfNums B := by
   apply bytes_inj
   rw [bytes_strOf hb.right.tail, hb0, List.map_drop, ← hb1, i1, Int.toNat_natCast, ← List.drop_drop, List.drop_left]
   rfl
  rw [i3, if_pos (by omega), i1, cutS_hit i2]
  simp only [e1, e2]
def smc (c : Int) : Int := if 65 ≤ c ∧ c ≤ 90 then c + 32 else c
theorem small_eq (c : Int) : line_small.f c = some (smc c) := by
 unfold line_small.f smc
 by_cases h1 : c ≥ 65
 ·rw [if_pos h1]
  by_cases h2 : c ≤ 90
  ·rw [if_pos h2, if_pos ⟨h1, h2⟩]
   congr 1
   omega
  ·rw [if_neg h2, if_neg (fun h => h2 h.2)]
 ·rw [if_neg h1, if_neg (fun h => h1 h.1)]
def alk (a b : ByteArray) : Bool := decide ((bytesOf a).map smc = (bytesOf b).map smc)
theorem alk_L0 (a b : ByteArray) (ha : a.size ≤ 1000000) (he : a.size = b.size) : ∀ (n : Nat) (i : Int), n = a.size - i.toNat → 0 ≤ i → i ≤ (a.size : Int) →
  line_Alike.L0 a b (a.size : Int) i = some (decide ((rest a i).map smc = (rest b i).map smc)) := by
 intro n
 induction n with
 | zero =>
  intro i hn h0 h1
  rw [line_Alike.L0_eq, if_neg (by omega), rest_nil (by omega), rest_nil (by omega)]
  rfl
 | succ n ih =>
  intro i hn h0 h1
  have hlt : i < (a.size : Int) := by omega
  have e1 := ih (i + 1) (by omega) (by omega) (by omega)
  rw [line_Alike.L0_eq, if_pos hlt, if_pos h0, if_pos hlt, small_eq, bind_some_, if_pos (by omega), small_eq, bind_some_, wrap64_id (n := i + 1) (by omega) (by omega), e1, rest_cons h0 hlt, rest_cons (s := b) h0 (by omega), List.map_cons, List.map_cons]
  by_cases h : smc (bt a i) = smc (bt b i)
  ·rw [if_pos h]
   congr 1
   rw [decide_eq_decide, List.cons.injEq]
   exact ⟨fun h' => ⟨h, h'⟩, fun h' => h'.2⟩
  ·rw [if_neg h, decide_eq_false (fun h' => h (List.cons.inj h').1)]
theorem alk_eq (a b : ByteArray) (ha : a.size ≤ 1000000) : line_Alike.F a b = some (alk a b) := by
 have za := size_len a; have zb := size_len b
 rw [line_Alike.F_eq]
 unfold alk
 by_cases h : a.size = b.size
 ·rw [if_pos (by omega), alk_L0 a b ha h _ 0 rfl (by omega) (by omega), rest_zero, rest_zero]
 ·rw [if_neg (by omega), decide_eq_false (fun h' => by
   have := congrArg List.length h'
   rw [List.length_map, List.length_map] at this
   omega)]
theorem parsS_bd (l : List Int) : 0 ≤ (parsS l).1 ∧ (parsS l).1 < 1000000000000000000 := by
 unfold parsS
 split
 ·rename_i h
  have := val_range l 0 0 h.2.2 (by omega) (by decide)
  have hp : (10 : Int) ^ (0 + l.length) ≤ 10 ^ 18 := by
   have : (10 : Nat) ^ (0 + l.length) ≤ 10 ^ 18 := Nat.pow_le_pow_right (by omega) (by omega)
   exact_mod_cast this
  have h18 : (10 : Int) ^ 18 = 1000000000000000000 := by decide
  exact ⟨this.1, by omega⟩
 ·decide
theorem parsS_nil : parsS [] = (0, false) := rfl
def nmS (sg : Bool) : List Int → Int × Bool
 | [] => (0, false)
 | c :: r => if sg = true ∧ (c = 43 ∨ c = 45) then (if c = 45 then -(parsS r).1 else (parsS r).1, (parsS r).2 && decide (r.length ≤ 6)) else ((parsS (c :: r)).1, (parsS (c :: r)).2 && decide ((c :: r).length ≤ 6))
theorem nm_J0 (s : ByteArray) : recur_number.J0 s false false = some ((parsS (bytesOf s)).1, (parsS (bytesOf s)).2 && decide ((bytesOf s).length ≤ 6)) := by
 have hz := size_len s
 rw [recur_number.J0_eq, if_neg (by decide), num_Parse_eq, bind_some_, if_neg (by decide)]
 have e : decide ((s.size : Int) ≤ 6) = decide ((bytesOf s).length ≤ 6) := by rw [decide_eq_decide]; omega
 cases h : (parsS (bytesOf s)).2 with
 | true => rw [if_pos rfl, e]; rfl
 | false => rw [if_neg (by decide)]; rfl
theorem bt_head {s : ByteArray} {c : Int} {r : List Int} (h : bytesOf s = c :: r) : bt s 0 = c := by
 have hz := size_len s
 rw [h, List.length_cons] at hz
 have h1 := rest_cons (s := s) (i := 0) (by omega) (by omega)
 rw [rest_zero, h] at h1
 exact (List.cons.inj h1).1.symm
theorem nm_eq (s : ByteArray) (sg : Bool) : recur_number.F s sg = some (nmS sg (bytesOf s)) := by
 have hz := size_len s
 rw [recur_number.F_eq]
 have hn : s.toList = ([] : List UInt8) ↔ bytesOf s = [] := by
  have e : ([] : List UInt8) = (⟨#[]⟩ : ByteArray).toList := by rw [ByteArray.toList_eq]
  rw [e, toList_iff]
  refine ⟨?_, fun h => bytes_inj h⟩
  rintro rfl; rfl
 cases h : bytesOf s with
 | nil =>
  have hj := nm_J0 s
  rw [h, parsS_nil] at hj
  cases sg with
  | true => rw [if_pos rfl, if_pos (hn.2 h), hj]; rfl
  | false => rw [if_neg (by decide), hj]; rfl
 | cons c r =>
  have hb := bt_head h
  rw [h, List.length_cons] at hz
  have hj := nm_J0 s
  rw [h] at hj
  cases sg with
  | false => rw [if_neg (by decide), hj, nmS, if_neg (by simp)]
  | true =>
   rw [if_pos rfl, if_neg (fun e => by rw [hn.1 e] at h; cases h), if_pos (by omega), hb]
   have hx : s.extract 1 s.size = strOfNums r := by rw [tail1, h]; rfl
   have hbr : Bytes r := by
    have := bytes_of s
    rw [h] at this
    exact this.tail
   have key : recur_number.J0 s false true = some (if c = 45 then -(parsS r).1 else (parsS r).1, (parsS r).2 && decide (r.length ≤ 6)) := by
    have hbd := parsS_bd r
    have ew : wrap64 (-(parsS r).1) = -(parsS r).1 := wrap64_id (by omega) (by omega)
    have es : ((strOfNums r).size : Int) = (r.length : Int) := by rw [size_strOf]
    have e : decide (((strOfNums r).size : Int) ≤ 6) = decide (r.length ≤ 6) := by rw [es, decide_eq_decide]; omega
    rw [recur_number.J0_eq, if_pos rfl, if_pos (by omega), if_pos (by omega), hx, num_Parse_str hbr, bind_some_, hb, ew, e]
    by_cases hc : c = 45
    ·rw [if_pos hc, if_pos hc]
     cases h2 : (parsS r).2 with
     | true => rw [if_pos rfl]; rfl
     | false => rw [if_neg (by decide)]; rfl
    ·rw [if_neg hc, if_neg hc]
     cases h2 : (parsS r).2 with
     | true => rw [if_pos rfl]; rfl
     | false => rw [if_neg (by decide)]; rfl
   by_cases h43 : c = 43
   ·rw [if_pos h43, key, nmS, if_pos (show true = true ∧ (c = 43 ∨ c = 45) from ⟨rfl, Or.inl h43⟩)]
   ·rw [if_neg h43]
    by_cases h45 : c = 45
    ·rw [show (c == 45) = true by rw [h45]; rfl, key, nmS, if_pos (show true = true ∧ (c = 43 ∨ c = 45) from ⟨rfl, Or.inr h45⟩)]
    ·rw [show (c == 45) = false by simpa using h45, hj, nmS, if_neg (fun h' => by omega)]
theorem spl_count (c : Int) : ∀ l : List Int, (spl c l).length ≤ l.length + 1
 | [] => by simp [spl]
 | x :: l => by
  have ih := spl_count c l
  rw [spl]
  split
  ·rw [List.length_cons, List.length_cons]; omega
  ·split
   ·simp
   ·rename_i z zs hz
    rw [hz, List.length_cons] at ih
    rw [List.length_cons, List.length_cons]; omega
theorem spl_back {c : Int} {l : List Int} (h : Bytes l) : ((spl c l).map strOfNums).map bytesOf = spl c l := by
 rw [List.map_map]
 conv => rhs; rw [← List.map_id (spl c l)]
 refine List.map_congr_left fun x hx => ?_
 exact bytes_strOf (spl_bytes h x hx)
def nsR (sg : Bool) : List (List Int) → Option (List Int)
 | [] => some []
 | x :: xs => if (nmS sg x).2 = true then (nsR sg xs).map ((nmS sg x).1 :: ·) else none
def nsE (acc : List Int) : Option (List Int) → List Int × Bool
 | some v => (acc ++ v, true)
 | none => ([], false)
theorem nsl_L0 (sg : Bool) (xs : List ByteArray) (hl : (xs.length : Int) ≤ 17592186044415) : ∀ (n : Nat) (i : Int) (acc : List Int), n = xs.length - i.toNat → 0 ≤ i → i ≤ (xs.length : Int) → (acc.length : Int) ≤ i → recur_numbers.L0 sg acc xs (xs.length : Int) i = some (nsE acc (nsR sg ((xs.drop i.toNat).map bytesOf))) := by
 intro n
 induction n with
 | zero =>
  intro i acc hn h0 h1 ha
  rw [recur_numbers.L0_eq, if_neg (by omega), drop_nil_ (by omega)]
  show _ = some (acc ++ [], true)
  rw [List.append_nil]
 | succ n ih =>
  intro i acc hn h0 h1 ha
  have hi : i < (xs.length : Int) := by omega
  rw [recur_numbers.L0_eq, if_pos hi, if_pos h0, if_pos hi, nm_eq, bind_some_, drop_cons_ ByteArray.empty h0 hi, List.map_cons, nsR]
  by_cases h : (nmS sg (bytesOf (rdOf ByteArray.empty xs i))).2 = true
  ·rw [if_pos h, if_pos h, if_pos (by omega), wrap64_id (by omega) (by omega), ih (i + 1) _ (by omega) (by omega) (by omega) (by rw [List.length_append, List.length_singleton]; omega)]
   cases nsR sg ((xs.drop (i + 1).toNat).map bytesOf) with
   | none => rfl
   | some v =>
    show some (_, true) = some (_, true)
    rw [List.append_assoc]
    rfl
  ·rw [if_neg h, if_neg h]
   rfl
def nsS (sg : Bool) (l : List Int) : List Int × Bool := nsE [] (nsR sg (spl 44 l))
theorem nsl_eq (s : ByteArray) (sg : Bool) (hs : s.size < 4294967281) : recur_numbers.F s sg = some (nsS sg (bytesOf s)) := by
 have hc := spl_count 44 (bytesOf s)
 rw [bytesOf_length] at hc
 rw [recur_numbers.F_eq, show (⟨#[44]⟩ : ByteArray) = ⟨#[(44 : UInt8)]⟩ from rfl, split_f_eq 44 hs, bind_some_, nsl_L0 sg _ (by rw [List.length_map]; show ((spl 44 (bytesOf s)).length : Int) ≤ _; omega) _ 0 [] rfl (by omega) (by omega) (by simp)]
 show some (nsE [] (nsR sg (List.map bytesOf ((spl 44 (bytesOf s)).map strOfNums)))) = _
 rw [spl_back (bytes_of s)]
 rfl
def wdS (ws : List ByteArray) (l : List Int) : Int × Bool := match ws.findIdx? (fun w => decide ((bytesOf w).map smc = l.map smc)) with
 | some i => ((i : Int), true)
 | none => (0, false)
def wiE (i : Int) : Option Nat → Int
 | some j => i + j
 | none => -1
theorem widx_L0 (ws : List ByteArray) (s : ByteArray) (hw : ∀ w ∈ ws, w.size ≤ 1000000) (hl : ws.length ≤ 1000) : ∀ (n : Nat) (i : Int), n = ws.length - i.toNat → 0 ≤ i → i ≤ (ws.length : Int) → recur_widx.L0 ws s i = some (wiE i ((ws.drop i.toNat).findIdx? fun w => decide ((bytesOf w).map smc = (bytesOf s).map smc))) := by
 intro n
 induction n with
 | zero =>
  intro i hn h0 h1
  rw [recur_widx.L0_eq, if_neg (by omega), drop_nil_ (by omega)]
  rfl
 | succ n ih =>
  intro i hn h0 h1
  have hi : i < (ws.length : Int) := by omega
  rw [recur_widx.L0_eq, if_pos hi, if_pos h0, alk_eq _ _ (hw _ (rdOf_mem ByteArray.empty h0 hi)), bind_some_, drop_cons_ ByteArray.empty h0 hi, List.findIdx?_cons]
  unfold alk
  by_cases h : decide ((bytesOf (rdOf ByteArray.empty ws i)).map smc = (bytesOf s).map smc) = true
  ·rw [if_pos h, if_pos h]
   show some i = some (i + ((0 : Nat) : Int))
   simp
  ·rw [if_neg h, if_neg h, wrap64_id (by omega) (by omega), ih (i + 1) (by omega) (by omega) (by omega)]
   cases (ws.drop (i + 1).toNat).findIdx? fun w => decide ((bytesOf w).map smc = (bytesOf s).map smc) with
   | none => rfl
   | some j =>
    show some (i + 1 + (j : Int)) = some (i + ((j + 1 : Nat) : Int))
    congr 1
    omega
theorem word_eq (ws : List ByteArray) (s : ByteArray) (hw : ∀ w ∈ ws, w.size ≤ 1000000) (hl : ws.length ≤ 1000) : recur_word.F ws s = some (wdS ws (bytesOf s)) := by
 rw [recur_word.F_eq, widx_L0 ws s hw hl _ 0 rfl (by omega) (by omega), bind_some_]
 unfold wdS
 rw [show ws.drop (0 : Int).toNat = ws from rfl]
 cases ws.findIdx? fun w => decide ((bytesOf w).map smc = (bytesOf s).map smc) with
 | none => rfl
 | some j =>
  show some (mx (0 + (j : Int)) 0, decide (0 + (j : Int) ≥ 0)) = some ((j : Int), true)
  rw [decide_eq_true (by omega)]
  unfold mx
  congr 2
  split <;> omega
def WDs : List ByteArray := [(⟨#[83, 85]⟩ : ByteArray), (⟨#[77, 79]⟩ : ByteArray), (⟨#[84, 85]⟩ : ByteArray), (⟨#[87, 69]⟩ : ByteArray), (⟨#[84, 72]⟩ : ByteArray), (⟨#[70, 82]⟩ : ByteArray), (⟨#[83, 65]⟩ : ByteArray)]
theorem WDs_size : ∀ w ∈ WDs, w.size ≤ 1000000 := by
 intro w hw
 simp only [WDs, List.mem_cons, List.not_mem_nil, or_false] at hw
 rcases hw with h | h | h | h | h | h | h <;> (subst h; decide)
def bdS (l : List Int) : Int × Int × Bool :=
 if l.length - 2 = 0 then (0, (wdS WDs (l.drop (l.length - 2))).1, (wdS WDs (l.drop (l.length - 2))).2)
 else if (wdS WDs (l.drop (l.length - 2))).2 = true then ((nmS true (l.take (l.length - 2))).1, (wdS WDs (l.drop (l.length - 2))).1, if (nmS true (l.take (l.length - 2))).2 = true then (nmS true (l.take (l.length - 2))).1 != 0 else false)
 else (0, (wdS WDs (l.drop (l.length - 2))).1, (wdS WDs (l.drop (l.length - 2))).2)
theorem byDay_eq (s : ByteArray) (hs : s.size ≤ 9223372036854775807) : recur_byDay.F s = some (bdS (bytesOf s)) := by
 have hz : s.size = (bytesOf s).length := (bytesOf_length s).symm
 rw [recur_byDay.F_eq, if_pos hs]
 unfold bdS
 show (recur_word.F WDs (s.extract (s.size - 2) s.size)).bind _ = _
 rw [word_eq WDs _ WDs_size (by decide), bind_some_, extract_all, hz, apply_ite some, apply_ite some, nm_eq, bytes_extract]
 rfl
def bsR : List (List Int) → Option (List S38)
 | [] => some []
 | x :: xs => if (bdS x).2.2 = true then (bsR xs).map ((⟨(bdS x).1, (bdS x).2.1⟩ : S38) :: ·) else none
def bsE (acc : List S38) : Option (List S38) → List S38 × Bool
 | some v => (acc ++ v, true)
 | none => ([], false)
theorem byDays_L0 (xs : List ByteArray) (hx : ∀ x ∈ xs, x.size ≤ 9223372036854775807) (hl : (xs.length : Int) ≤ 8796093022207) : ∀ (n : Nat) (i : Int) (acc : List S38), n = xs.length - i.toNat → 0 ≤ i → i ≤ (xs.length : Int) → (acc.length : Int) ≤ i → recur_byDays.L0 acc xs (xs.length : Int) i = some (bsE acc (bsR ((xs.drop i.toNat).map bytesOf))) := by
 intro n
 induction n with
 | zero =>
  intro i acc hn h0 h1 ha
  rw [recur_byDays.L0_eq, if_neg (by omega), drop_nil_ (by omega)]
  show _ = some (acc ++ [], true)
  rw [List.append_nil]
 | succ n ih =>
  intro i acc hn h0 h1 ha
  have hi : i < (xs.length : Int) := by omega
  rw [recur_byDays.L0_eq, if_pos hi, if_pos h0, if_pos hi, byDay_eq _ (hx _ (rdOf_mem ByteArray.empty h0 hi)), bind_some_, drop_cons_ ByteArray.empty h0 hi, List.map_cons, bsR]
  by_cases h : (bdS (bytesOf (rdOf ByteArray.empty xs i))).2.2 = true
  ·rw [if_pos h, if_pos h, if_pos (by omega), wrap64_id (by omega) (by omega), ih (i + 1) _ (by omega) (by omega) (by omega) (by rw [List.length_append, List.length_singleton]; omega)]
   cases bsR ((xs.drop (i + 1).toNat).map bytesOf) with
   | none => rfl
   | some v =>
    show some (_, true) = some (_, true)
    rw [List.append_assoc]
    rfl
  ·rw [if_neg h, if_neg h]
   rfl
def bsS (l : List Int) : List S38 × Bool := bsE [] (bsR (spl 44 l))
theorem byDays_eq (s : ByteArray) (hs : s.size < 4294967281) : recur_byDays.F s = some (bsS (bytesOf s)) := by
 have hc := spl_count 44 (bytesOf s)
 rw [bytesOf_length] at hc
 have hy : ∀ x ∈ (spl 44 (bytesOf s)).map strOfNums, x.size ≤ 9223372036854775807 := by
  intro x hx
  obtain ⟨y, hy, rfl⟩ := List.mem_map.1 hx
  have := spl_len _ y hy
  rw [bytesOf_length] at this
  rw [size_strOf]
  omega
 rw [recur_byDays.F_eq, show (⟨#[44]⟩ : ByteArray) = ⟨#[(44 : UInt8)]⟩ from rfl, split_f_eq 44 hs, bind_some_, show (((44 : UInt8).toNat : Nat) : Int) = 44 from rfl, byDays_L0 _ hy (by rw [List.length_map]; show ((spl 44 (bytesOf s)).length : Int) ≤ _; omega) _ 0 [] rfl (by omega) (by omega) (by simp)]
 show some (bsE [] (bsR (List.map bytesOf ((spl 44 (bytesOf s)).map strOfNums)))) = _
 rw [spl_back (bytes_of s)]
 rfl
end Go.Proofs.YtjanombhdnoemaaGreatDoor.Base

namespace Go.Proofs.YtjanombhdnoemaaGreatDoor.Base
open Go.RowKit Go.Proofs.YtjanombhdnoemaaGreatDoor.PRec Go.Proofs.YtjanombhdnoemaaGreatDoorW.PrintWords Go.Proofs.YtjanombhdnoemaaGreatDoorW.PrintLast Go.Proofs.YtjanombhdnoemaaGreatDoorW.PrintMore
set_option linter.unusedVariables false
set_option linter.unusedSimpArgs false
def tot (l6 l7 l8 : List Int) (l9 : List S38) (l10 l11 l12 l13 : List Int) : Int := l6.length + l7.length + l8.length + l9.length + l10.length + l11.length + l12.length + l13.length
def okB (a0 : Int) (l6 l7 l8 : List Int) (l9 : List S38) (l10 l11 l12 l13 l14 : List Int) : Bool :=
 decide (¬ (a0 = 5 ∧ (l10.length : Int) > 0) ∧ ¬ ((a0 = 4 ∨ a0 = 5 ∨ a0 = 6) ∧ (l11.length : Int) > 0) ∧ ¬ (a0 ≠ 7 ∧ (l12.length : Int) > 0) ∧ ((l14.length : Int) = 0 ∨ tot l6 l7 l8 l9 l10 l11 l12 l13 > 0))
theorem beside_eq (a0 a1 a2 : Int) (a3 : Bool) (a4 : Int) (a5 : Bool) (l6 l7 l8 : List Int) (l9 : List S38) (l10 l11 l12 l13 l14 : List Int) (a15 : Int) (h6 : Len9 l6) (h7 : Len9 l7) (h8 : Len9 l8) (h9 : Len9 l9) (h10 : Len9 l10) (h11 : Len9 l11) (h12 : Len9 l12) (h13 : Len9 l13) :
  recur_beside.f a0 a1 a2 a3 a4 a5 l6 l7 l8 l9 l10 l11 l12 l13 l14 a15 = some (okB a0 l6 l7 l8 l9 l10 l11 l12 l13 l14) := by
 unfold Len9 at *
 have e : wrap64 (wrap64 (wrap64 (wrap64 (wrap64 (wrap64 (wrap64 ((l6.length : Int) + l7.length) + l8.length) + l9.length) + l10.length) + l11.length) + l12.length) + l13.length) = tot l6 l7 l8 l9 l10 l11 l12 l13 := by
  unfold tot
  rw [wrap64_id (n := (l6.length : Int) + l7.length) (by omega) (by omega), wrap64_id (n := (l6.length : Int) + l7.length + l8.length) (by omega) (by omega), wrap64_id (n := (l6.length : Int) + l7.length + l8.length + l9.length) (by omega) (by omega), wrap64_id (n := (l6.length : Int) + l7.length + l8.length + l9.length + l10.length) (by omega) (by omega), wrap64_id (n := (l6.length : Int) + l7.length + l8.length + l9.length + l10.length + l11.length) (by omega) (by omega), wrap64_id (n := (l6.length : Int) + l7.length + l8.length + l9.length + l10.length + l11.length + l12.length) (by omega) (by omega), wrap64_id (by omega) (by omega)]
 unfold recur_beside.f okB
 rw [e]
 congr 1
 rw [Bool.eq_iff_iff, decide_eq_true_eq]
 split
 ·rename_i h
  simp only [Bool.or_eq_true, Bool.and_eq_true, beq_iff_eq, bne_iff_ne, decide_eq_true_eq] at h
  simp only [Bool.false_eq_true, false_iff]
  omega
 ·rename_i h
  simp only [Bool.or_eq_true, Bool.and_eq_true, beq_iff_eq, bne_iff_ne, decide_eq_true_eq] at h ⊢
  omega
def okLs (l6 l7 l8 l10 l11 l12 l13 l14 : List Int) : Bool := okL 1 12 false l13 && (okL 1 53 true l12 && (okL 1 366 true l11 && (okL 1 31 true l10 && (okL 0 23 false l8 && (okL 0 59 false l7 && (okL 0 59 false l6 && okL 1 366 true l14))))))
theorem rights_eq (l6 l7 l8 l10 l11 l12 l13 l14 : List Int) (h6 : RowI l6) (h7 : RowI l7) (h8 : RowI l8) (h10 : RowI l10) (h11 : RowI l11) (h12 : RowI l12) (h13 : RowI l13) (h14 : RowI l14) : recur_rights.F l13 l12 l11 l10 l8 l7 l6 l14 = some (!(okLs l6 l7 l8 l10 l11 l12 l13 l14)) := by
 rw [recur_rights.F_eq, lright_eq _ _ _ _ h13, bind_some_, lright_eq _ _ _ _ h12, bind_some_, lright_eq _ _ _ _ h11, bind_some_, lright_eq _ _ _ _ h10, bind_some_, lright_eq _ _ _ _ h8, bind_some_, lright_eq _ _ _ _ h7, bind_some_, lright_eq _ _ _ _ h6, bind_some_, lright_eq _ _ _ _ h14, bind_some_]
 unfold okLs
 simp only [Bool.not_and, Bool.or_false]
def okR (a0 a1 a2 : Int) (a3 : Bool) (a4 : Int) (a5 : Bool) (l6 l7 l8 : List Int) (l9 : List S38) (l10 l11 l12 l13 l14 : List Int) (a15 : Int) : Bool :=
 decide (1 ≤ a0 ∧ a0 ≤ 7 ∧ 1 ≤ a1 ∧ a1 ≤ 1000 ∧ 0 ≤ a15 ∧ a15 ≤ 6) && (okE a2 a3 a4 a5 && (okLs l6 l7 l8 l10 l11 l12 l13 l14 && (okD a0 l12 l9 && okB a0 l6 l7 l8 l9 l10 l11 l12 l13 l14)))
structure RowR (a4 : Int) (l6 l7 l8 : List Int) (l9 : List S38) (l10 l11 l12 l13 l14 : List Int) : Prop where
 t : In64 a4
 h6 : RowI l6
 h7 : RowI l7
 h8 : RowI l8
 d : ∀ x ∈ l9, In38 x
 dl : Len9 l9
 h10 : RowI l10
 h11 : RowI l11
 h12 : RowI l12
 h13 : RowI l13
 h14 : RowI l14
theorem Check_eq (a0 a1 a2 : Int) (a3 : Bool) (a4 : Int) (a5 : Bool) (l6 l7 l8 : List Int) (l9 : List S38) (l10 l11 l12 l13 l14 : List Int) (a15 : Int) (h : RowR a4 l6 l7 l8 l9 l10 l11 l12 l13 l14) :
  recur_Check.F a0 a1 a2 a3 a4 a5 l6 l7 l8 l9 l10 l11 l12 l13 l14 a15 = some (if okR a0 a1 a2 a3 a4 a5 l6 l7 l8 l9 l10 l11 l12 l13 l14 a15 = true then 0 else 21) := by
 rw [recur_Check.F_eq]
 unfold okR
 by_cases h1 : 1 ≤ a0 ∧ a0 ≤ 7 ∧ 1 ≤ a1 ∧ a1 ≤ 1000 ∧ 0 ≤ a15 ∧ a15 ≤ 6
 ·rw [if_neg (by omega), if_neg (by omega), if_neg (by omega), if_neg (by omega), if_neg (by omega), if_neg (by omega), ends_eq _ _ _ _ _ _ _ _ _ _ _ _ _ _ _ _ h.t, bind_some_, rights_eq _ _ _ _ _ _ _ _ h.h6 h.h7 h.h8 h.h10 h.h11 h.h12 h.h13 h.h14, bind_some_, days_eq _ _ _ h.d h.dl, bind_some_, beside_eq _ _ _ _ _ _ _ _ _ _ _ _ _ _ _ _ h.h6.2 h.h7.2 h.h8.2 h.dl h.h10.2 h.h11.2 h.h12.2 h.h13.2, bind_some_, decide_eq_true h1, Bool.true_and]
  cases okE a2 a3 a4 a5 with
  | false => rw [if_neg (by decide), if_neg (by simp)]
  | true =>
   rw [if_pos rfl, Bool.true_and]
   cases okLs l6 l7 l8 l10 l11 l12 l13 l14 with
   | false => rw [if_pos (by decide), if_neg (by simp)]
   | true =>
    rw [if_neg (by decide), Bool.true_and]
    cases okD a0 l12 l9 with
    | false => rw [if_neg (by decide), if_neg (by simp)]
    | true =>
     rw [if_pos rfl, Bool.true_and]
     cases okB a0 l6 l7 l8 l9 l10 l11 l12 l13 l14 with
     | false => rw [if_neg (by decide), if_neg (by simp)]
     | true => rw [if_pos rfl, if_pos rfl]
 ·rw [decide_eq_false h1, Bool.false_and, if_neg (show ¬ (false = true) by decide)]
  by_cases c1 : a0 < 1
  ·rw [if_pos c1]
  rw [if_neg c1]
  by_cases c2 : a0 > 7
  ·rw [if_pos c2]
  rw [if_neg c2]
  by_cases c3 : a1 < 1
  ·rw [if_pos c3]
  rw [if_neg c3]
  by_cases c4 : a1 > 1000
  ·rw [if_pos c4]
  rw [if_neg c4]
  by_cases c5 : a15 < 0
  ·rw [if_pos c5]
  rw [if_neg c5]
  by_cases c6 : a15 > 6
  ·rw [if_pos c6]
  ·omega
def FRs : List ByteArray := [(⟨#[83, 69, 67, 79, 78, 68, 76, 89]⟩ : ByteArray), (⟨#[77, 73, 78, 85, 84, 69, 76, 89]⟩ : ByteArray), (⟨#[72, 79, 85, 82, 76, 89]⟩ : ByteArray), (⟨#[68, 65, 73, 76, 89]⟩ : ByteArray), (⟨#[87, 69, 69, 75, 76, 89]⟩ : ByteArray), (⟨#[77, 79, 78, 84, 72, 76, 89]⟩ : ByteArray), (⟨#[89, 69, 65, 82, 76, 89]⟩ : ByteArray)]
theorem FRs_size : ∀ w ∈ FRs, w.size ≤ 1000000 := by
 intro w hw
 simp only [FRs, List.mem_cons, List.not_mem_nil, or_false] at hw
 rcases hw with h | h | h | h | h | h | h <;> (subst h; decide)
def NMs : List ByteArray := [(⟨#[70, 82, 69, 81]⟩ : ByteArray), (⟨#[73, 78, 84, 69, 82, 86, 65, 76]⟩ : ByteArray), (⟨#[67, 79, 85, 78, 84]⟩ : ByteArray), (⟨#[85, 78, 84, 73, 76]⟩ : ByteArray), (⟨#[66, 89, 68, 65, 89]⟩ : ByteArray), (⟨#[87, 75, 83, 84]⟩ : ByteArray)]
theorem NMs_size : ∀ w ∈ NMs, w.size ≤ 1000000 := by
 intro w hw
 simp only [NMs, List.mem_cons, List.not_mem_nil, or_false] at hw
 rcases hw with h | h | h | h | h | h <;> (subst h; decide)
theorem wdS_bd (ws : List ByteArray) (l : List Int) : 0 ≤ (wdS ws l).1 ∧ (wdS ws l).1 ≤ ws.length := by
 unfold wdS
 cases h : ws.findIdx? fun w => decide ((bytesOf w).map smc = l.map smc) with
 | none => exact ⟨Int.le_refl _, by simp⟩
 | some i =>
  have := (List.findIdx?_eq_some_iff_findIdx_eq.1 h).1
  constructor
  ·show 0 ≤ (i : Int); omega
  ·show (i : Int) ≤ _; omega
def prS (nm v : List Int) : Bool × Upd :=
 if (wdS NMs nm).2 = true then
  (if (wdS NMs nm).1 = 0 then ((wdS FRs v).2, .num 0 (1 + (wdS FRs v).1))
  else if (wdS NMs nm).1 = 1 then ((nmS false v).2, .num 1 (nmS false v).1)
  else if (wdS NMs nm).1 = 2 then (if (nmS false v).2 = true then decide ((nmS false v).1 > 0) else false, .num 2 (nmS false v).1)
  else if (wdS NMs nm).1 = 3 then ((encT (ptS v)).2.2 == 0, .til (encT (ptS v)).1 (encT (ptS v)).2.1)
  else if (wdS NMs nm).1 = 4 then ((bsS v).2, .dys (bsS v).1)
  else ((wdS WDs v).2, .num 15 (wdS WDs v).1))
 else (false, .no)
theorem rest_eq (nm v : ByteArray) (hv : v.size < 4294967281) : pt_rest.F nm v = some (prS (bytesOf nm) (bytesOf v)) := by
 rw [pt_rest.F_eq]
 show (recur_word.F NMs nm).bind _ = _
 rw [word_eq NMs nm NMs_size (by decide), bind_some_]
 unfold prS
 by_cases h : (wdS NMs (bytesOf nm)).2 = true
 ·rw [if_pos h, if_pos h]
  by_cases h0 : (wdS NMs (bytesOf nm)).1 = 0
  ·rw [if_pos h0, if_pos h0]
   show (recur_word.F FRs v).bind _ = _
   have hb := wdS_bd FRs (bytesOf v)
   have hl : FRs.length = 7 := rfl
   rw [word_eq FRs v FRs_size (by decide), bind_some_, wrap64_id (by omega) (by omega)]
  rw [if_neg h0, if_neg h0]
  by_cases h1 : (wdS NMs (bytesOf nm)).1 = 1
  ·rw [if_pos h1, if_pos h1, nm_eq, bind_some_]
  rw [if_neg h1, if_neg h1]
  by_cases h2 : (wdS NMs (bytesOf nm)).1 = 2
  ·rw [if_pos h2, if_pos h2, nm_eq, bind_some_]
  rw [if_neg h2, if_neg h2]
  by_cases h3 : (wdS NMs (bytesOf nm)).1 = 3
  ·rw [if_pos h3, if_pos h3, ParseTime_eq v (by omega), bind_some_]
  rw [if_neg h3, if_neg h3]
  by_cases h4 : (wdS NMs (bytesOf nm)).1 = 4
  ·rw [if_pos h4, if_pos h4, byDays_eq v hv, bind_some_]
  ·rw [if_neg h4, if_neg h4]
   show (recur_word.F WDs v).bind _ = _
   rw [word_eq WDs v WDs_size (by decide), bind_some_]
 ·rw [if_neg h, if_neg h]
def paE (nm v : List Int) : Option (ByteArray × Nat × Bool) → Bool × Upd
 | some p => ((nsS p.2.2 v).2, .lst p.2.1 (nsS p.2.2 v).1)
 | none => prS nm v
def paS (nm v : List Int) : Bool × Upd := paE nm v (ptL.find? fun p => decide ((bytesOf p.1).map smc = nm.map smc))
theorem ptL_size : ∀ p ∈ ptL, p.1.size ≤ 1000000 := by
 intro p hp
 simp only [ptL, List.mem_cons, List.not_mem_nil, or_false] at hp
 rcases hp with h | h | h | h | h | h | h | h <;> (subst h; decide)
theorem part_L0 (nm v : ByteArray) (hv : v.size < 4294967281) : ∀ (n : Nat) (i : Int), n = 8 - i.toNat → 0 ≤ i → i ≤ 8 → recur_part.L0 nm v i = some (paE (bytesOf nm) (bytesOf v) ((ptL.drop i.toNat).find? fun p => decide ((bytesOf p.1).map smc = (bytesOf nm).map smc))) := by
 intro n
 have hl : ptL.length = 8 := rfl
 induction n with
 | zero =>
  intro i hn h0 h1
  rw [recur_part.L0_eq, if_neg (by omega), drop_nil_ (by omega), rest_eq nm v hv]
  rfl
 | succ n ih =>
  intro i hn h0 h1
  have hi : i < (ptL.length : Int) := by omega
  rw [recur_part.L0_eq, if_pos (by omega), if_pos h0, alk_eq _ _ (ptL_size _ (rdOf_mem ptZ h0 hi)), bind_some_, drop_cons_ ptZ h0 hi, List.find?_cons]
  unfold alk
  by_cases h : decide ((bytesOf (rdOf ptZ ptL i).1).map smc = (bytesOf nm).map smc) = true
  ·rw [if_pos h, h, nsl_eq v _ hv, bind_some_]
   rfl
  ·rw [if_neg h, wrap64_id (by omega) (by omega), ih (i + 1) (by omega) (by omega) (by omega)]
   rw [Bool.not_eq_true] at h
   rw [h]
theorem part_eq (nm v : ByteArray) (hv : v.size < 4294967281) : recur_part.F nm v = some (paS (bytesOf nm) (bytesOf v)) := by
 rw [recur_part.F_eq, part_L0 nm v hv _ 0 rfl (by omega) (by omega)]
 rfl
end Go.Proofs.YtjanombhdnoemaaGreatDoor.Base
