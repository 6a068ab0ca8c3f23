/- Plain lemmas on byte strings, read as lists of whole numbers. No condition. -/
import Derived.Test.YtdgeokpbedllaaaDoorBase
import Derived.Laws.Strings
import Derived.Lib.Bytealg
import Derived.Lib.Join
import Derived.Lib.IndexAny
namespace Go.Proofs.YtdgeokpbedllaaaDoor.Base
open Go.Proofs.YtdgeokpbedllaaaDoorW.PrintWords Go.RowKit

theorem wrap64_id {n : Int} (h0 : -9223372036854775808 ≤ n) (h1 : n ≤ 9223372036854775807) : wrap64 n = n := by unfold wrap64; omega
theorem bind_some_ {α β : Type} (a : α) (f : α → Option β) : (some a).bind f = f a := rfl

/-- A list of bytes. -/
def Bytes (l : List Int) : Prop := ∀ x ∈ l, 0 ≤ x ∧ x ≤ 255
theorem Bytes.nil : Bytes [] := fun _ h => by cases h
theorem Bytes.cons {x : Int} {l : List Int} (h0 : 0 ≤ x) (h1 : x ≤ 255) (h : Bytes l) : Bytes (x :: l) := fun y hy => by
  rcases List.mem_cons.1 hy with rfl | hy
  · exact ⟨h0, h1⟩
  · exact h y hy
theorem Bytes.head {x : Int} {l : List Int} (h : Bytes (x :: l)) : 0 ≤ x ∧ x ≤ 255 := h x (List.mem_cons_self ..)
theorem Bytes.left {l m : List Int} (h : Bytes (l ++ m)) : Bytes l := fun y hy => h y (List.mem_append_left _ hy)
theorem Bytes.right {l m : List Int} (h : Bytes (l ++ m)) : Bytes m := fun y hy => h y (List.mem_append_right _ hy)
theorem size_len (s : ByteArray) : (s.size : Int) = ((bytesOf s).length : Int) := by rw [bytesOf_length]
/-- What stands from a place on. -/
def rest (s : ByteArray) (i : Int) : List Int := (bytesOf s).drop i.toNat
theorem rest_zero (s : ByteArray) : rest s 0 = bytesOf s := rfl
theorem rest_cons {s : ByteArray} {i : Int} (h0 : 0 ≤ i) (h1 : i < (s.size : Int)) : rest s i = bt s i :: rest s (i + 1) := by
  unfold rest
  have hl : i.toNat < (bytesOf s).length := by rw [bytesOf_length]; omega
  rw [List.drop_eq_getElem_cons hl, show (i + 1).toNat = i.toNat + 1 by omega]
  congr 1
  rw [← rd_bytesOf]
  unfold rd
  rw [List.getD_eq_getElem?_getD, List.getElem?_eq_getElem hl]
  rfl
theorem rest_nil {s : ByteArray} {i : Int} (h1 : (s.size : Int) ≤ i) : rest s i = [] := by
  unfold rest
  exact List.drop_eq_nil_of_le (by rw [bytesOf_length]; omega)
theorem drop_cons_ {α : Type} (d : α) {l : List α} {i : Int} (h0 : 0 ≤ i) (h1 : i < (l.length : Int)) : l.drop i.toNat = rdOf d l i :: l.drop (i + 1).toNat := by
  have hl : i.toNat < l.length := by omega
  rw [List.drop_eq_getElem_cons hl, show (i + 1).toNat = i.toNat + 1 by omega]
  congr 1
  unfold rdOf
  rw [List.getD_eq_getElem?_getD, List.getElem?_eq_getElem hl]
  rfl
theorem drop_nil_ {α : Type} {l : List α} {i : Int} (h1 : (l.length : Int) ≤ i) : l.drop i.toNat = [] := List.drop_eq_nil_of_le (by omega)
theorem rdOf_mem {α : Type} (d : α) {l : List α} {i : Int} (h0 : 0 ≤ i) (h1 : i < (l.length : Int)) : rdOf d l i ∈ l := by
  have h := drop_cons_ d h0 h1
  exact List.mem_of_mem_drop (h ▸ List.mem_cons_self ..)
/-- The bytes from a place up to another one. -/
def seg (s : ByteArray) (a b : Int) : List Int := ((bytesOf s).take b.toNat).drop a.toNat
end Go.Proofs.YtdgeokpbedllaaaDoor.Base
