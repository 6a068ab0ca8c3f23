-- A text of the kit's tools for this claim, its remarks left out.
import Derived.Test.YtjanombhdnoemaaGreatDoorRecM
import Derived.Test.YtjanombhdnoemaaGreatDoorBase
import Derived.Test.YtjanombhdnoemaaGreatDoorPRecx7
namespace Go.Proofs.YtjanombhdnoemaaGreatDoor.PRec
open Go.RowKit Go.Proofs.YtjanombhdnoemaaGreatDoorW.PrintWords Go.Proofs.YtjanombhdnoemaaGreatDoorW.PrintLast Go.Proofs.YtjanombhdnoemaaGreatDoorW.PrintMore Go.Proofs.YtjanombhdnoemaaGreatDoor.Base
attribute [local go_sem] max2_int min2_int max_two min_two max_three min_three max_four min_four
set_option linter.unusedVariables false
set_option linter.unusedSimpArgs false
def lgI (c : Int) : Int := if 97 ≤ c ∧ c ≤ 122 then c - 32 else c
def recur_large.f (a0 : ByteArray) : Option ByteArray := if a0.size ≤ 9223372036854775807 then some (strOfNums ((bytesOf a0).map lgI)) else none
def BRow (w : World) (g : Nat) (xs : List Int) : Prop := ∀ j : Nat, j < xs.length → w.cell? ⟨g, j, none⟩ = some (.int .u8 (rd xs (j : Int))) ∧ w.frozen? ⟨g, j, none⟩ = false
theorem BRow.new (W : World) (e : TypeId) (s : ByteArray) : BRow (Lib.bytesWorld W e s) W.heap.size (bytesOf s) := by
 intro j hj
 rw [bytesOf_length] at hj
 refine ⟨?_, ?_⟩
 ·rw [Lib.bytesWorld_cell W e s j hj]
  have h' : j < s.data.toList.length := by rw [data_length]; exact hj
  simp [rd, bytesOf, List.getD_eq_getElem?_getD, List.getElem?_eq_getElem h']
 ·simp [World.frozen?, Lib.bytesWorld_at_new, Lib.bytesCells]
  omega
theorem BRow.put {w : World} {g : Nat} {xs : List Int} (h : BRow w g xs) (i : Nat) (x : Int) : BRow (w.setCell ⟨g, i, none⟩ (.int .u8 x)) g (xs.set i x) := by
 intro j hj
 rw [List.length_set] at hj
 obtain ⟨h1, h2⟩ := h j hj
 refine ⟨?_, by rw [World.frozen?_setCell]; exact h2⟩
 by_cases e : i = j
 ·subst e
  rw [World.cell?_setCell_same' _ _ _ (by rw [h1]; rfl)]
  simp [rd, List.getD_eq_getElem?_getD, hj]
 ·rw [World.cell?_setCell_other (h := show (⟨g, i, none⟩ : Addr) ≠ ⟨g, j, none⟩ by intro e2; injection e2 with _ e3; exact e e3), h1]
  simp [rd, List.getD_eq_getElem?_getD, List.getElem?_set_ne e]
theorem BRow.same {w : World} {g : Nat} {xs : List Int} (h : BRow w g xs) (i : Nat) : BRow w g (xs.set i (rd xs (i : Int))) := by
 intro j hj
 rw [List.length_set] at hj
 obtain ⟨h1, h2⟩ := h j hj
 refine ⟨?_, h2⟩
 rw [h1]
 by_cases e : i = j
 ·subst e
  simp [rd, List.getD_eq_getElem?_getD, hj]
 ·simp [rd, List.getD_eq_getElem?_getD, List.getElem?_set_ne e]
theorem BRow.reads {w : World} {g : Nat} {xs : List Int} (h : BRow w g xs) (hl : xs.length ≤ 9223372036854775807) : ReadsInt w .u8 (some ⟨g, 0, none⟩) xs.length xs := by
 refine ⟨rfl, hl, fun _ => ⟨_, rfl, fun j hj => ?_⟩⟩
 rw [add_plain, (h j hj).1]
 simp [rd]
theorem map_step (xs : List Int) (j : Nat) (hj : j < xs.length) : ((xs.take j).map lgI ++ xs.drop j).set j (lgI (rd xs j)) = (xs.take (j + 1)).map lgI ++ xs.drop (j + 1) := by
 have e0 : rd xs (j : Int) = xs[j] := by simp [rd, List.getD_eq_getElem?_getD, List.getElem?_eq_getElem hj]
 rw [e0, List.take_succ_eq_append_getElem hj, List.map_append, List.set_append_right _ _ (by simp [List.length_take]; omega)]
 have e1 : j - ((xs.take j).map lgI).length = 0 := by simp [List.length_take]; omega
 rw [e1, List.drop_eq_getElem_cons hj]
 simp only [List.set_cons_zero, List.map_cons, List.map_nil, List.append_assoc, List.cons_append, List.nil_append]
theorem rd_step (xs : List Int) (j : Nat) (hj : j < xs.length) : rd ((xs.take j).map lgI ++ xs.drop j) (j : Int) = rd xs j := by
 have e1 : ((xs.take j).map lgI).length = j := by simp [List.length_take]; omega
 simp only [rd, List.getD_eq_getElem?_getD, Int.toNat_natCast]
 rw [List.getElem?_append_right (by omega), e1, List.getElem?_drop]
 simp
theorem bytes_u8 (s : ByteArray) (j : Nat) (hj : j < (bytesOf s).length) : 0 ≤ rd (bytesOf s) j ∧ rd (bytesOf s) j ≤ 255 := by
 have e0 : rd (bytesOf s) (j : Int) = (bytesOf s)[j] := by simp [rd, List.getD_eq_getElem?_getD, List.getElem?_eq_getElem hj]
 rw [e0]
 simp only [bytesOf, List.getElem_map]
 constructor
 ·omega
 ·have := UInt8.toNat_lt (s.data.toList[j]'(by simpa [bytesOf] using hj)); omega
set_option maxHeartbeats 8000000 in
set_option maxRecDepth 100000 in
theorem recur_large.calls (a0 : ByteArray) (r : ByteArray) (w : World) (h : recur_large.f a0 = some r) :
 Calls Tryz.prog 35 #[.string a0] w fun e w' => e = .returned (.string r) ∧ Below w.heap.size w w' := by
 unfold recur_large.f at h
 by_cases hmx0 : a0.size ≤ 9223372036854775807
 rotate_left
 ·rw [if_neg hmx0] at h; cases h
 rw [if_pos hmx0] at h
 obtain rfl := Option.some.inj h
 have hmx := Aside0.mk hmx0
 clear h hmx0
 have kb := fun W => print_bytes (P := Tryz.prog) 9 30 5 Tryz.underlying9 Tryz.underlying30 Tryz.underlying5 a0 W
 have hu5 := Tryz.underlying5
 have hu30 := Tryz.underlying30
 go_enter Tryz.func35, Tryz.ntmps35
 go_wp2
 have HN := Aside0.mk (BRow.new w 5 a0)
 have HB0 := Aside0.mk (bytes_below (Below.refl w.heap.size w) (Nat.le_refl _) 5 a0)
 clear kb
 generalize grownCap w a0.size 0 5 = cp
 generalize Lib.bytesWorld w 5 a0 = w1 at HN HB0 ⊢
 go_loopg [10] (a0.size + 1) (fun kq v10 w' => ∃ (j : Nat), v10 = .int .i64 (j : Int) ∧ Aside0 (j + kq = a0.size + 1) ∧ Aside0 (BRow w' w.heap.size (((bytesOf a0).take j).map lgI ++ (bytesOf a0).drop j)) ∧ Aside0 (Below w.heap.size w w'))
 case atStart => exact ⟨0, by rfl, ⟨by omega⟩, ⟨by simpa using HN.out⟩, HB0⟩
 case round =>
  obtain ⟨j, rfl, HA, HR, HB⟩ := hrel
  have hA := HA.out
  by_cases c4 : j < a0.size
  rotate_left
  ·have c4b0 : decide ((j : Int) < (a0.size : Int)) = false := decide_eq_false (by omega)
   have c4b1 : decide (j < a0.size) = false := decide_eq_false (by omega)
   have HF : Aside0 (ReadsInt wr .u8 (some ⟨w.heap.size, 0, none⟩) a0.size ((bytesOf a0).map lgI)) := by
    have h0 := HR.out
    rw [List.take_of_length_le (by rw [bytesOf_length]; omega), List.drop_eq_nil_of_le (by rw [bytesOf_length]; omega), List.append_nil] at h0
    have h1 := h0.reads (by rw [List.length_map, bytesOf_length]; exact hmx.out)
    rw [List.length_map, bytesOf_length] at h1
    exact ⟨h1⟩
   have ks : ∀ c, (convert 30 9 (.slice (some ⟨w.heap.size, 0, none⟩) a0.size c)).run Tryz.prog wr = .ok (.string (strOfNums ((bytesOf a0).map lgI))) wr := fun c => string_of_reads Tryz.underlying30 Tryz.underlying5 Tryz.underlying9 HF.out
   clear c4 hA
   go_wp2
   go_ret
   exact ⟨by rfl, HB.out⟩
  ·have c4b0 : decide ((j : Int) < (a0.size : Int)) = true := decide_eq_true (by omega)
   have c4b1 : decide (j < a0.size) = true := decide_eq_true (by omega)
   have C4 := Aside0.mk c4
   have hl : j < (bytesOf a0).length := by rw [bytesOf_length]; exact c4
   have HL := Aside0.mk hl
   obtain ⟨x1, x2⟩ := HR.out j (by rw [List.length_append, List.length_map, List.length_take, List.length_drop]; omega)
   rw [rd_step _ _ hl] at x1
   obtain ⟨u1, u2⟩ := bytes_u8 a0 j hl
   have hput := fun x => Aside0.mk (HR.out.put j x)
   have HSM := Aside0.mk (HR.out.same j)
   have HSE := Aside0.mk (rd_step _ _ hl)
   have EQ := Aside0.mk (map_step _ _ hl)
   generalize rd (bytesOf a0) (j : Int) = c at x1 u1 u2 EQ HSE
   clear hl hA
   by_cases d : 97 ≤ c ∧ c ≤ 122
   ·obtain ⟨d1, d2⟩ := d
    have HP := hput (c - 97 + 65)
    have e3 := Aside0.mk (show lgI c = c - 97 + 65 by unfold lgI; rw [if_pos ⟨d1, d2⟩]; omega)
    have d3 : decide (97 ≤ c) = true := decide_eq_true d1
    have d4 : decide (c ≤ 122) = true := decide_eq_true d2
    clear hput
    go_wp2
    go_roundg (gk - 1)
    case measure => have := HA.out; have := C4.out; omega
    case rel => exact ⟨j + 1, by rw [show wrap64 ((j : Int) + 1) = ((j + 1 : Nat) : Int) by have := hmx.out; have := C4.out; unfold wrap64; omega], ⟨by have := HA.out; have := C4.out; omega⟩, ⟨by rw [← EQ.out, e3.out]; exact HP.out⟩, ⟨below_set HB.out (Nat.le_refl _)⟩⟩
   ·have e3 := Aside0.mk (show lgI c = c by unfold lgI; rw [if_neg d])
    have EQ2 : Aside0 (BRow wr w.heap.size (((bytesOf a0).take (j + 1)).map lgI ++ (bytesOf a0).drop (j + 1))) := by
     have h0 := HSM.out
     have h1 := EQ.out
     rw [e3.out] at h1
     rw [HSE.out, h1] at h0
     exact ⟨h0⟩
    have d3 : (decide (97 ≤ c) && decide (c ≤ 122)) = false := by simp; omega
    clear hput
    by_cases d1 : 97 ≤ c
    ·have d4 : decide (97 ≤ c) = true := decide_eq_true d1
     have d5 : decide (c ≤ 122) = false := decide_eq_false (by omega)
     go_wp2
     go_roundg (gk - 1)
     case measure => have := HA.out; have := C4.out; omega
     case rel => exact ⟨j + 1, by rw [show wrap64 ((j : Int) + 1) = ((j + 1 : Nat) : Int) by have := hmx.out; have := C4.out; unfold wrap64; omega], ⟨by have := HA.out; have := C4.out; omega⟩, EQ2, HB⟩
    ·have d4 : decide (97 ≤ c) = false := decide_eq_false d1
     go_wp2
     go_roundg (gk - 1)
     case measure => have := HA.out; have := C4.out; omega
     case rel => exact ⟨j + 1, by rw [show wrap64 ((j : Int) + 1) = ((j + 1 : Nat) : Int) by have := hmx.out; have := C4.out; unfold wrap64; omega], ⟨by have := HA.out; have := C4.out; omega⟩, EQ2, HB⟩
end Go.Proofs.YtjanombhdnoemaaGreatDoor.PRec
