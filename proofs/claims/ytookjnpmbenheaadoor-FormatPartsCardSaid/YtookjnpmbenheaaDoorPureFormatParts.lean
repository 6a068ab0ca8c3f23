/- The law FormatParts over numbers and lists: for every input the law's printed function answers true. -/
import Derived.Test.YtookjnpmbenheaaDoorFmtC
import Derived.Test.YtookjnpmbenheaaDoorEFmtx8
namespace Go.Proofs.YtookjnpmbenheaaDoor.Pure
open Go.RowKit Go.Proofs.YtookjnpmbenheaaDoor.PFmt Go.Proofs.YtookjnpmbenheaaDoorW.PrintWords Go.Proofs.YtookjnpmbenheaaDoorW.PrintLast Go.Proofs.YtookjnpmbenheaaDoorW.PrintMore Go.Proofs.YtookjnpmbenheaaDoor.Base
set_option linter.unusedVariables false
set_option linter.unusedSimpArgs false

theorem parts_J0 (a b w : ByteArray) (o v : Int) (ha : plainS (bytesOf a) 10 = true) (hb : plainS (bytesOf b) 10 = true) (hw : plainS (bytesOf w) 6 = true) (hd : bytesOf w ≠ [45]) : solsticelaw12_FormatParts.J0 a b w o v false = some true := by
  obtain ⟨a1, a2, a3⟩ := plainS_iff.1 ha
  obtain ⟨b1, b2, b3⟩ := plainS_iff.1 hb
  obtain ⟨w1, w2, w3⟩ := plainS_iff.1 hw
  have za := bytesOf_length a; have zb := bytesOf_length b; have zw := bytesOf_length w
  have ho : Off (Int.tmod o 172800) := by
    have h2 := Int.tmod_lt_of_pos o (show (0 : Int) < 172800 by omega)
    have h3 := Int.tmod_lt_of_pos (-o) (show (0 : Int) < 172800 by omega)
    rw [Int.neg_tmod] at h3
    unfold Off
    omega
  have hl : letS (bytesOf w) = true := by
    unfold letS
    rw [decide_eq_true (show (bytesOf w).length ≤ 6 by omega), w3, decide_eq_true hd]
    rfl
  rw [solsticelaw12_FormatParts.J0_eq, if_neg (by simp)]
  generalize Int.tmod o 172800 = f at *
  have ho' := ho
  unfold Off at ho'
  have ts := stxt_rgt_ ho
  have tl := stxt_len_ ho
  have e1 : bytesOf (a ++ (⟨#[37, 115]⟩ : ByteArray) ++ b) = bytesOf a ++ 37 :: 115 :: bytesOf b := by rw [bytes_append, bytes_append, List.append_assoc]; rfl
  have e2 : bytesOf (a ++ (⟨#[47]⟩ : ByteArray) ++ b) = bytesOf a ++ 47 :: bytesOf b := by rw [bytes_append, bytes_append, List.append_assoc]; rfl
  have e3 : bytesOf (a ++ (⟨#[37, 122]⟩ : ByteArray)) = bytesOf a ++ 37 :: 122 :: [] := by rw [bytes_append]; rfl
  have s1 : (a ++ (⟨#[37, 115]⟩ : ByteArray) ++ b).size = a.size + 2 + b.size := by rw [ByteArray.size_append, ByteArray.size_append]; rfl
  have s2 : (a ++ (⟨#[47]⟩ : ByteArray) ++ b).size = a.size + 1 + b.size := by rw [ByteArray.size_append, ByteArray.size_append]; rfl
  have s3 : (a ++ (⟨#[37, 122]⟩ : ByteArray)).size = a.size + 2 := by rw [ByteArray.size_append]; rfl
  have s4 : (a ++ (⟨#[37, 115]⟩ : ByteArray)).size = a.size + 2 := by rw [ByteArray.size_append]; rfl
  have s5 : (a ++ (⟨#[47]⟩ : ByteArray)).size = a.size + 1 := by rw [ByteArray.size_append]; rfl
  have r1 : rgt (bytesOf a ++ bytesOf w ++ bytesOf b) = true := rgt_iff.2 ⟨by rw [List.all_append, List.all_append, a3, b3, w3]; rfl, by simp only [List.length_append]; omega, by simp only [List.length_append]; omega⟩
  have r2 : rgt (bytesOf a) = true := rgt_iff.2 ⟨a3, by omega, by omega⟩
  have r3 : rgt (bytesOf b) = true := rgt_iff.2 ⟨b3, by omega, by omega⟩
  have r4 : rgt (bytesOf a ++ stxt f ++ []) = true := rgt_iff.2 ⟨by rw [List.append_nil, List.all_append, a3, (rgt_iff.1 ts).1]; rfl, by simp only [List.append_nil, List.length_append]; omega, by simp only [List.append_nil, List.length_append]; omega⟩
  have n1 := name_3 (v := v) (o := f) (by omega) e1 a3 b3 (show w.size ≤ 1000 by omega) hl ho
  have n2 := name_2 (v := v) (o := f) (by omega) e2 a3 b3 (show w.size ≤ 1000 by omega) hl ho
  have n3 := name_1 (f := a) (v := v) (o := f) (by omega) a3 (show w.size ≤ 1000 by omega) hl ho
  have n4 := name_4 (v := v) (o := f) (by omega) e3 a3 (by rfl) (show w.size ≤ 1000 by omega) hl ho
  have r2' : rgt (if v = 0 then bytesOf a else bytesOf b) = true := by split <;> assumption
  unfold nameR at n1 n2 n3 n4
  rw [if_pos r1] at n1
  rw [if_pos r2'] at n2
  rw [if_pos r2, strOf_bytes] at n3
  rw [if_pos r4, List.append_nil] at n4
  have q1 : strOfNums (bytesOf a ++ bytesOf w ++ bytesOf b) = a ++ w ++ b := by rw [← strOf_append, ← strOf_append, strOf_bytes, strOf_bytes, strOf_bytes]
  have q4 : strOfNums (bytesOf a ++ stxt f) = a ++ strOfNums (stxt f) := by rw [← strOf_append, strOf_bytes]
  rw [q1] at n1
  rw [q4] at n4
  have z1 : (a ++ w).size = a.size + w.size := ByteArray.size_append
  rw [if_pos (by omega), if_pos (by omega), n1, bind_some_, if_pos (by omega), if_pos (by omega), n2, bind_some_, n3, bind_some_, n4, bind_some_, short_eq f (by omega), if_pos ho, bind_some_, wakes12]
  dsimp only
  by_cases hv : v = 0
  · rw [if_pos hv, if_pos rfl, if_pos (by omega), if_pos (by omega), if_pos rfl, if_pos rfl, if_pos (by rw [if_pos hv, strOf_bytes]), if_pos rfl, if_pos rfl, if_pos rfl, if_pos rfl, if_pos (by rw [size_strOf]; omega), if_pos rfl, bind_some_]
  · rw [if_neg hv, if_pos rfl, if_pos (by omega), if_pos (by omega), if_pos rfl, if_pos rfl, if_pos (by rw [if_neg hv, strOf_bytes]), if_pos rfl, if_pos rfl, if_pos rfl, if_pos rfl, if_pos (by rw [size_strOf]; omega), if_pos rfl, bind_some_]
theorem FormatParts : solsticelaw12_FormatParts.Pure := by
  intro a b w o v ha hb hw ho hv
  suffices h : solsticelaw12_FormatParts.F a b w o v = some true from lim_some h
  have stop : solsticelaw12_FormatParts.J0 a b w o v true = some true := by rw [solsticelaw12_FormatParts.J0_eq, if_pos rfl]
  have hd : (w.toList == ([45] : List UInt8)) = decide (bytesOf w = [45]) := by
    rw [Bool.eq_iff_iff, beq_iff_eq, decide_eq_true_eq]
    have e : ([45] : List UInt8) = (⟨#[45]⟩ : ByteArray).toList := by rw [ByteArray.toList_eq]
    rw [e, toList_iff]
    constructor
    · rintro rfl; rfl
    · exact fun h => bytes_inj h
  rw [solsticelaw12_FormatParts.F_eq, plain_eq a (by omega), bind_some_, plain_eq b (by omega), bind_some_, plain_eq w (by omega), bind_some_, stop, hd]
  by_cases h1 : plainS (bytesOf a) 10 = true
  · rw [if_pos h1]
    by_cases h2 : plainS (bytesOf b) 10 = true
    · rw [if_pos h2]
      by_cases h3 : plainS (bytesOf w) 6 = true
      · rw [if_pos h3]
        by_cases h4 : bytesOf w = [45]
        · rw [decide_eq_true h4, stop]
        · rw [decide_eq_false h4, parts_J0 a b w o v h1 h2 h3 h4]
      · rw [if_neg h3]
    · rw [if_neg h2]
  · rw [if_neg h1]
end Go.Proofs.YtookjnpmbenheaaDoor.Pure
