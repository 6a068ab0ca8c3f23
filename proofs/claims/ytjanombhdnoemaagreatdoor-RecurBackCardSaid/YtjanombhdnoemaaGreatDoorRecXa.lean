-- A text of the kit's tools for this claim, its remarks left out.
import Derived.Test.YtjanombhdnoemaaGreatDoorRecA
namespace Go.Proofs.YtjanombhdnoemaaGreatDoor.PRec
open Go.RowKit Go.Proofs.YtjanombhdnoemaaGreatDoorW.PrintWords Go.Proofs.YtjanombhdnoemaaGreatDoorW.PrintLast Go.Proofs.YtjanombhdnoemaaGreatDoorW.PrintMore Go.Proofs.YtjanombhdnoemaaGreatDoor.Base
attribute [local go_sem] max2_int min2_int max_two min_two max_three min_three max_four min_four
set_option linter.unusedVariables false
set_option linter.unusedSimpArgs false
theorem cells16 {w : World} {g : Nat} {x0 x1 x2 x3 x4 x5 x6 x7 x8 x9 x10 x11 x12 x13 x14 x15 : Value} (h : w.heap[g]? = some (.cells #[x0, x1, x2, x3, x4, x5, x6, x7, x8, x9, x10, x11, x12, x13, x14, x15] 25 (0, 0))) : w.cell? ⟨g, 0, none⟩ = some x0 ∧ w.cell? ⟨g, 1, none⟩ = some x1 ∧ w.cell? ⟨g, 2, none⟩ = some x2 ∧ w.cell? ⟨g, 3, none⟩ = some x3 ∧ w.cell? ⟨g, 4, none⟩ = some x4 ∧ w.cell? ⟨g, 5, none⟩ = some x5 ∧ w.cell? ⟨g, 6, none⟩ = some x6 ∧ w.cell? ⟨g, 7, none⟩ = some x7 ∧ w.cell? ⟨g, 8, none⟩ = some x8 ∧ w.cell? ⟨g, 9, none⟩ = some x9 ∧ w.cell? ⟨g, 10, none⟩ = some x10 ∧ w.cell? ⟨g, 11, none⟩ = some x11 ∧ w.cell? ⟨g, 12, none⟩ = some x12 ∧ w.cell? ⟨g, 13, none⟩ = some x13 ∧ w.cell? ⟨g, 14, none⟩ = some x14 ∧ w.cell? ⟨g, 15, none⟩ = some x15 := ⟨(blk_cell h 0).trans rfl, (blk_cell h 1).trans rfl, (blk_cell h 2).trans rfl, (blk_cell h 3).trans rfl, (blk_cell h 4).trans rfl, (blk_cell h 5).trans rfl, (blk_cell h 6).trans rfl, (blk_cell h 7).trans rfl, (blk_cell h 8).trans rfl, (blk_cell h 9).trans rfl, (blk_cell h 10).trans rfl, (blk_cell h 11).trans rfl, (blk_cell h 12).trans rfl, (blk_cell h 13).trans rfl, (blk_cell h 14).trans rfl, (blk_cell h 15).trans rfl⟩
structure Bx (w : World) (g : Nat) (a0 a1 a2 : Int) (a3 : Bool) (a4 : Int) (a5 : Bool) (A6 : Option Addr) (c6 : Nat) (l6 : List Int) (A7 : Option Addr) (c7 : Nat) (l7 : List Int) (A8 : Option Addr) (c8 : Nat) (l8 : List Int) (A9 : Option Addr) (c9 : Nat) (l9 : List S38) (A10 : Option Addr) (c10 : Nat) (l10 : List Int) (A11 : Option Addr) (c11 : Nat) (l11 : List Int) (A12 : Option Addr) (c12 : Nat) (l12 : List Int) (A13 : Option Addr) (c13 : Nat) (l13 : List Int) (A14 : Option Addr) (c14 : Nat) (l14 : List Int) (a15 : Int) : Prop where
 b : w.heap[g]? = some (.cells #[Value.int .i64 a0, Value.int .i64 a1, Value.int .i64 a2, Value.bool a3, Value.int .i64 a4, Value.bool a5, Value.slice A6 l6.length c6, Value.slice A7 l7.length c7, Value.slice A8 l8.length c8, Value.slice A9 l9.length c9, Value.slice A10 l10.length c10, Value.slice A11 l11.length c11, Value.slice A12 l12.length c12, Value.slice A13 l13.length c13, Value.slice A14 l14.length c14, Value.int .i64 a15] 25 (0, 0))
 h6 : Kd.C (Kd.int .i64) w A6 l6.length l6
 q6 : l6.length ≤ c6
 h7 : Kd.C (Kd.int .i64) w A7 l7.length l7
 q7 : l7.length ≤ c7
 h8 : Kd.C (Kd.int .i64) w A8 l8.length l8
 q8 : l8.length ≤ c8
 h9 : Kd.C k38 w A9 l9.length l9
 q9 : l9.length ≤ c9
 h10 : Kd.C (Kd.int .i64) w A10 l10.length l10
 q10 : l10.length ≤ c10
 h11 : Kd.C (Kd.int .i64) w A11 l11.length l11
 q11 : l11.length ≤ c11
 h12 : Kd.C (Kd.int .i64) w A12 l12.length l12
 q12 : l12.length ≤ c12
 h13 : Kd.C (Kd.int .i64) w A13 l13.length l13
 q13 : l13.length ≤ c13
 h14 : Kd.C (Kd.int .i64) w A14 l14.length l14
 q14 : l14.length ≤ c14
theorem Bx.below {w w1 : World} {g : Nat} {a0 a1 a2 : Int} {a3 : Bool} {a4 : Int} {a5 : Bool} {A6 : Option Addr} {c6 : Nat} {l6 : List Int} {A7 : Option Addr} {c7 : Nat} {l7 : List Int} {A8 : Option Addr} {c8 : Nat} {l8 : List Int} {A9 : Option Addr} {c9 : Nat} {l9 : List S38} {A10 : Option Addr} {c10 : Nat} {l10 : List Int} {A11 : Option Addr} {c11 : Nat} {l11 : List Int} {A12 : Option Addr} {c12 : Nat} {l12 : List Int} {A13 : Option Addr} {c13 : Nat} {l13 : List Int} {A14 : Option Addr} {c14 : Nat} {l14 : List Int} {a15 : Int} (h : Bx w g a0 a1 a2 a3 a4 a5 A6 c6 l6 A7 c7 l7 A8 c8 l8 A9 c9 l9 A10 c10 l10 A11 c11 l11 A12 c12 l12 A13 c13 l13 A14 c14 l14 a15) (hb : Below w.heap.size w w1) : Bx w1 g a0 a1 a2 a3 a4 a5 A6 c6 l6 A7 c7 l7 A8 c8 l8 A9 c9 l9 A10 c10 l10 A11 c11 l11 A12 c12 l12 A13 c13 l13 A14 c14 l14 a15 :=
 ⟨blk_below h.b hb, Kd.C_below h.h6 hb, h.q6, Kd.C_below h.h7 hb, h.q7, Kd.C_below h.h8 hb, h.q8, Kd.C_below h.h9 hb, h.q9, Kd.C_below h.h10 hb, h.q10, Kd.C_below h.h11 hb, h.q11, Kd.C_below h.h12 hb, h.q12, Kd.C_below h.h13 hb, h.q13, Kd.C_below h.h14 hb, h.q14⟩
end Go.Proofs.YtjanombhdnoemaaGreatDoor.PRec
