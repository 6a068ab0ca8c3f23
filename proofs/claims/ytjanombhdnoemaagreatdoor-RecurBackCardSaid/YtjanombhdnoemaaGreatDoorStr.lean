-- A text of the kit's tools for this claim, its remarks left out.
import Derived.Test.YtjanombhdnoemaaGreatDoorBase
import Derived.Laws.Strings
import Derived.Lib.Bytealg
import Derived.Lib.Join
import Derived.Lib.IndexAny
namespace Go.Proofs.YtjanombhdnoemaaGreatDoor.Base
open Go.Proofs.YtjanombhdnoemaaGreatDoorW.PrintWords Go.RowKit
theorem wrap64_id {n : Int} (h0 : -9223372036854775808 ≤ n) (h1 : n ≤ 9223372036854775807) : wrap64 n = n := by unfold wrap64; omega
theorem bind_some_ {α β : Type} (a : α) (f : α → Option β) : (some a).bind f = f a := rfl
def Bytes (l : List Int) : Prop := ∀ x ∈ l, 0 ≤ x ∧ x ≤ 255
theorem Bytes.nil : Bytes [] := fun _ h => by cases h
theorem Bytes.cons {x : Int} {l : List Int} (h0 : 0 ≤ x) (h1 : x ≤ 255) (h : Bytes l) : Bytes (x :: l) := fun y hy => by
 rcases List.mem_cons.1 hy with rfl | hy
 ·exact ⟨h0, h1⟩
 ·exact h y hy
theorem Bytes.app {l m : List Int} (h : Bytes l) (k : Bytes m) : Bytes (l ++ m) := fun y hy => by
 rcases List.mem_append.1 hy with hy | hy
 ·exact h y hy
 ·exact k y hy
theorem Bytes.tail {x : Int} {l : List Int} (h : Bytes (x :: l)) : Bytes l := fun y hy => h y (List.mem_cons_of_mem _ hy)
theorem Bytes.head {x : Int} {l : List Int} (h : Bytes (x :: l)) : 0 ≤ x ∧ x ≤ 255 := h x (List.mem_cons_self ..)
theorem Bytes.left {l m : List Int} (h : Bytes (l ++ m)) : Bytes l := fun y hy => h y (List.mem_append_left _ hy)
theorem Bytes.right {l m : List Int} (h : Bytes (l ++ m)) : Bytes m := fun y hy => h y (List.mem_append_right _ hy)
theorem bytes_of (s : ByteArray) : Bytes (bytesOf s) := fun x hx => by
 unfold bytesOf at hx
 obtain ⟨b, _, rfl⟩ := List.mem_map.1 hx
 have := b.toNat_lt
 omega
theorem ba_ext {s t : ByteArray} (h : s.data.toList = t.data.toList) : s = t := by
 cases s; cases t
 congr 1
 exact Array.toList_inj.1 h
theorem map_toNat_inj : ∀ {l m : List UInt8}, l.map (fun b => (b.toNat : Int)) = m.map (fun b => (b.toNat : Int)) → l = m
 | [], [], _ => rfl
 | [], _ :: _, h => by simp at h
 | _ :: _, [], h => by simp at h
 | a :: l, b :: m, h => by
  simp only [List.map_cons, List.cons.injEq] at h
  have e : a = b := by
   apply UInt8.toNat_inj.1
   omega
  rw [e, map_toNat_inj h.2]
theorem bytes_inj {s t : ByteArray} (h : bytesOf s = bytesOf t) : s = t := ba_ext (map_toNat_inj h)
theorem toList_iff {s t : ByteArray} : s.toList = t.toList ↔ s = t := by
 constructor
 ·intro h
  rw [ByteArray.toList_eq, ByteArray.toList_eq] at h
  exact ba_ext h
 ·intro h
  rw [h]
theorem bytes_strOf {l : List Int} (h : Bytes l) : bytesOf (strOfNums l) = l := by
 unfold bytesOf strOfNums
 rw [List.map_map]
 conv => rhs; rw [← List.map_id l]
 refine List.map_congr_left fun x hx => ?_
 have := h x hx
 show ((UInt8.ofNat x.toNat).toNat : Int) = x
 rw [UInt8.toNat_ofNat']
 omega
theorem strOf_bytes (s : ByteArray) : strOfNums (bytesOf s) = s := bytes_inj (bytes_strOf (bytes_of s))
theorem bytes_append (s t : ByteArray) : bytesOf (s ++ t) = bytesOf s ++ bytesOf t := by
 unfold bytesOf
 rw [ByteArray.data_append, Array.toList_append, List.map_append]
theorem strOf_append {l m : List Int} : strOfNums l ++ strOfNums m = strOfNums (l ++ m) := by
 apply ba_ext
 rw [ByteArray.data_append, Array.toList_append]
 simp [strOfNums]
theorem strOf_inj {l m : List Int} (hl : Bytes l) (hm : Bytes m) (h : strOfNums l = strOfNums m) : l = m := by
 rw [← bytes_strOf hl, h, bytes_strOf hm]
theorem size_len (s : ByteArray) : (s.size : Int) = ((bytesOf s).length : Int) := by rw [bytesOf_length]
theorem size_strOf (l : List Int) : (strOfNums l).size = l.length := by
 rw [← data_length]
 simp [strOfNums]
theorem bytes_extract (s : ByteArray) (i j : Nat) : bytesOf (s.extract i j) = ((bytesOf s).take j).drop i := by
 unfold bytesOf
 rw [ByteArray.data_extract, Array.toList_extract, List.extract_eq_take_drop, List.map_take, List.map_drop, ← List.drop_take]
theorem extract_all (s : ByteArray) (i : Nat) : bytesOf (s.extract i s.size) = (bytesOf s).drop i := by
 rw [bytes_extract, ← bytesOf_length, List.take_length]
def rest (s : ByteArray) (i : Int) : List Int := (bytesOf s).drop i.toNat
theorem rest_zero (s : ByteArray) : rest s 0 = bytesOf s := rfl
theorem rest_cons {s : ByteArray} {i : Int} (h0 : 0 ≤ i) (h1 : i < (s.size : Int)) : rest s i = bt s i :: rest s (i + 1) := by
 unfold rest
 have hl : i.toNat < (bytesOf s).length := by rw [bytesOf_length]; omega
 rw [List.drop_eq_getElem_cons hl, show (i + 1).toNat = i.toNat + 1 by omega]
 congr 1
 rw [← rd_bytesOf]
 unfold rd
 rw [List.getD_eq_getElem?_getD, List.getElem?_eq_getElem hl]
 rfl
theorem rest_nil {s : ByteArray} {i : Int} (h1 : (s.size : Int) ≤ i) : rest s i = [] := by
 unfold rest
 exact List.drop_eq_nil_of_le (by rw [bytesOf_length]; omega)
theorem drop_cons_ {α : Type} (d : α) {l : List α} {i : Int} (h0 : 0 ≤ i) (h1 : i < (l.length : Int)) : l.drop i.toNat = rdOf d l i :: l.drop (i + 1).toNat := by
 have hl : i.toNat < l.length := by omega
 rw [List.drop_eq_getElem_cons hl, show (i + 1).toNat = i.toNat + 1 by omega]
 congr 1
 unfold rdOf
 rw [List.getD_eq_getElem?_getD, List.getElem?_eq_getElem hl]
 rfl
theorem drop_nil_ {α : Type} {l : List α} {i : Int} (h1 : (l.length : Int) ≤ i) : l.drop i.toNat = [] := List.drop_eq_nil_of_le (by omega)
theorem rdOf_mem {α : Type} (d : α) {l : List α} {i : Int} (h0 : 0 ≤ i) (h1 : i < (l.length : Int)) : rdOf d l i ∈ l := by
 have h := drop_cons_ d h0 h1
 exact List.mem_of_mem_drop (h ▸ List.mem_cons_self ..)
def jn (sep : List Int) : List (List Int) → List Int
 | [] => []
 | [x] => x
 | x :: y :: t => x ++ (sep ++ jn sep (y :: t))
theorem join_two (x y : List UInt8) (t : List (List UInt8)) (sep : List UInt8) : Lib.join (x :: y :: t) sep = x ++ (sep ++ Lib.join (y :: t) sep) := by
 simp [Lib.join, List.intercalate]
theorem bytes_join (sep : ByteArray) : ∀ l : List ByteArray, bytesOf ⟨(Lib.join (l.map (·.data.toList)) sep.data.toList).toArray⟩ = jn (bytesOf sep) (l.map bytesOf)
 | [] => rfl
 | [x] => by
  rw [List.map_cons, List.map_nil, Lib.join_one]
  rfl
 | x :: y :: t => by
  have ih := bytes_join sep (y :: t)
  simp only [List.map_cons] at ih ⊢
  rw [join_two, jn, ← ih]
  unfold bytesOf
  simp only [List.map_append]
theorem bytes_length_mk (l : List UInt8) : (bytesOf ⟨l.toArray⟩).length = l.length := by
 unfold bytesOf
 simp
theorem jn_length (sep : List Int) (m : Nat) : ∀ l : List (List Int), (∀ x ∈ l, x.length ≤ m) → (jn sep l).length ≤ l.length * (m + sep.length)
 | [], _ => by simp [jn]
 | [x], h => by
  have := h x (List.mem_cons_self ..)
  simp only [jn, List.length_singleton, Nat.one_mul]
  omega
 | x :: y :: t, h => by
  have ih := jn_length sep m (y :: t) (fun z hz => h z (List.mem_cons_of_mem _ hz))
  have := h x (List.mem_cons_self ..)
  simp only [jn, List.length_append]
  rw [show (x :: y :: t).length = (y :: t).length + 1 from rfl, Nat.add_mul, Nat.one_mul]
  omega
theorem jn_bytes {sep : List Int} (hs : Bytes sep) : ∀ l : List (List Int), (∀ x ∈ l, Bytes x) → Bytes (jn sep l)
 | [], _ => Bytes.nil
 | [x], h => h x (List.mem_cons_self ..)
 | x :: y :: t, h => Bytes.app (h x (List.mem_cons_self ..)) (Bytes.app hs (jn_bytes hs (y :: t) (fun z hz => h z (List.mem_cons_of_mem _ hz))))
def seg (s : ByteArray) (a b : Int) : List Int := ((bytesOf s).take b.toNat).drop a.toNat
end Go.Proofs.YtjanombhdnoemaaGreatDoor.Base
