-- A text of the kit's tools for this claim, its remarks left out.
import Derived.Test.YtjanombhdnoemaaGreatDoorRecE
import Derived.Test.YtjanombhdnoemaaGreatDoorRecG
import Derived.Test.YtjanombhdnoemaaGreatDoorRecQ
import Derived.Test.YtjanombhdnoemaaGreatDoorRecZ
import Derived.Test.YtjanombhdnoemaaGreatDoorRecZh
import Derived.Test.YtjanombhdnoemaaGreatDoorRecYe
namespace Go.Proofs.YtjanombhdnoemaaGreatDoor.PRec
open Go.RowKit Go.Proofs.YtjanombhdnoemaaGreatDoorW.PrintWords Go.Proofs.YtjanombhdnoemaaGreatDoorW.PrintLast Go.Proofs.YtjanombhdnoemaaGreatDoorW.PrintMore Go.Proofs.YtjanombhdnoemaaGreatDoor.Base
attribute [local go_sem] max2_int min2_int max_two min_two max_three min_three max_four min_four
set_option linter.unusedVariables false
set_option linter.unusedSimpArgs false
theorem keepV_iff (a0 : Int) (a1 : Int) (a2 : Int) (a3 : Bool) (a4 : Int) (a5 : Bool) (l6 : List Int) (l7 : List Int) (l8 : List Int) (l9 : List S38) (l10 : List Int) (l11 : List Int) (l12 : List Int) (l13 : List Int) (l14 : List Int) (a15 : Int) (b0 : Int) (b1 : Int) (b2 : Int) (b3 : Bool) (b4 : Int) (b5 : Bool) (m6 : List Int) (m7 : List Int) (m8 : List Int) (m9 : List S38) (m10 : List Int) (m11 : List Int) (m12 : List Int) (m13 : List Int) (m14 : List Int) (b15 : Int) : ((a0 == b0 && (a1 == b1 && (a2 == b2 && (a3 == b3 && (a4 == b4 && (a5 == b5 && (a15 == b15 && ((l9.length : Int) == (m9.length : Int))))))))) && (decide (l9 = m9) && (decide (l6 = m6) && (decide (l7 = m7) && (decide (l8 = m8) && (decide (l10 = m10) && (decide (l11 = m11) && (decide (l12 = m12) && (decide (l13 = m13) && (decide (l14 = m14))))))))))) = true ↔ (a0, a1, a2, a3, a4, a5, l6, l7, l8, l9, l10, l11, l12, l13, l14, a15, (0 : Int)) = (b0, b1, b2, b3, b4, b5, m6, m7, m8, m9, m10, m11, m12, m13, m14, b15, (0 : Int)) := by
 simp only [Bool.and_eq_true, beq_iff_eq, decide_eq_true_eq, Prod.mk.injEq]
 constructor
 ·rintro ⟨⟨e0, e1, e2, e3, e4, e5, e15, hl⟩, e9, e6, e7, e8, e10, e11, e12, e13, e14⟩
  exact ⟨e0, e1, e2, e3, e4, e5, e6, e7, e8, e9, e10, e11, e12, e13, e14, e15, trivial⟩
 ·rintro ⟨e0, e1, e2, e3, e4, e5, e6, e7, e8, e9, e10, e11, e12, e13, e14, e15, _⟩
  exact ⟨⟨e0, e1, e2, e3, e4, e5, e15, by rw [e9]⟩, e9, e6, e7, e8, e10, e11, e12, e13, e14⟩
set_option maxHeartbeats 4000000 in
theorem rb_calls (a0 : Int) (a1 : Int) (a2 : Int) (a3 : Bool) (a4 : Int) (a5 : Bool) (A6 : Option Addr) (c6 : Nat) (l6 : List Int) (A7 : Option Addr) (c7 : Nat) (l7 : List Int) (A8 : Option Addr) (c8 : Nat) (l8 : List Int) (A9 : Option Addr) (c9 : Nat) (l9 : List S38) (A10 : Option Addr) (c10 : Nat) (l10 : List Int) (A11 : Option Addr) (c11 : Nat) (l11 : List Int) (A12 : Option Addr) (c12 : Nat) (l12 : List Int) (A13 : Option Addr) (c13 : Nat) (l13 : List Int) (A14 : Option Addr) (c14 : Nat) (l14 : List Int) (a15 : Int) (b0 : Int) (b1 : Int) (b2 : Int) (b3 : Bool) (b4 : Int) (b5 : Bool) (B6 : Option Addr) (d6 : Nat) (m6 : List Int) (B7 : Option Addr) (d7 : Nat) (m7 : List Int) (B8 : Option Addr) (d8 : Nat) (m8 : List Int) (B9 : Option Addr) (d9 : Nat) (m9 : List S38) (B10 : Option Addr) (d10 : Nat) (m10 : List Int) (B11 : Option Addr) (d11 : Nat) (m11 : List Int) (B12 : Option Addr) (d12 : Nat) (m12 : List Int) (B13 : Option Addr) (d13 : Nat) (m13 : List Int) (B14 : Option Addr) (d14 : Nat) (m14 : List Int) (b15 : Int) (s : ByteArray) (hQ0 : ((Lit.int .i64 a0).wf = true) ∧ ((Lit.int .i64 a1).wf = true) ∧ ((Lit.int .i64 a2).wf = true) ∧ (True) ∧ ((Lit.int .i64 a4).wf = true) ∧ (True) ∧ (∀ y0 ∈ l6, (Lit.int .i64 y0).wf = true) ∧ (∀ y0 ∈ l7, (Lit.int .i64 y0).wf = true) ∧ (∀ y0 ∈ l8, (Lit.int .i64 y0).wf = true) ∧ (∀ y0 ∈ l9, ((Lit.int .i64 y0.f0).wf = true) ∧ ((Lit.int .i64 y0.f1).wf = true)) ∧ (∀ y0 ∈ l10, (Lit.int .i64 y0).wf = true) ∧ (∀ y0 ∈ l11, (Lit.int .i64 y0).wf = true) ∧ (∀ y0 ∈ l12, (Lit.int .i64 y0).wf = true) ∧ (∀ y0 ∈ l13, (Lit.int .i64 y0).wf = true) ∧ (∀ y0 ∈ l14, (Lit.int .i64 y0).wf = true) ∧ ((Lit.int .i64 a15).wf = true)) (hQ1 : ((Lit.int .i64 b0).wf = true) ∧ ((Lit.int .i64 b1).wf = true) ∧ ((Lit.int .i64 b2).wf = true) ∧ (True) ∧ ((Lit.int .i64 b4).wf = true) ∧ (True) ∧ (∀ y0 ∈ m6, (Lit.int .i64 y0).wf = true) ∧ (∀ y0 ∈ m7, (Lit.int .i64 y0).wf = true) ∧ (∀ y0 ∈ m8, (Lit.int .i64 y0).wf = true) ∧ (∀ y0 ∈ m9, ((Lit.int .i64 y0.f0).wf = true) ∧ ((Lit.int .i64 y0.f1).wf = true)) ∧ (∀ y0 ∈ m10, (Lit.int .i64 y0).wf = true) ∧ (∀ y0 ∈ m11, (Lit.int .i64 y0).wf = true) ∧ (∀ y0 ∈ m12, (Lit.int .i64 y0).wf = true) ∧ (∀ y0 ∈ m13, (Lit.int .i64 y0).wf = true) ∧ (∀ y0 ∈ m14, (Lit.int .i64 y0).wf = true) ∧ ((Lit.int .i64 b15).wf = true)) (w : World) (hG : GP w) (h6 : Kd.C (Kd.int .i64) w A6 l6.length l6) (q6 : l6.length ≤ c6) (h7 : Kd.C (Kd.int .i64) w A7 l7.length l7) (q7 : l7.length ≤ c7) (h8 : Kd.C (Kd.int .i64) w A8 l8.length l8) (q8 : l8.length ≤ c8) (h9 : Kd.C k38 w A9 l9.length l9) (q9 : l9.length ≤ c9) (h10 : Kd.C (Kd.int .i64) w A10 l10.length l10) (q10 : l10.length ≤ c10) (h11 : Kd.C (Kd.int .i64) w A11 l11.length l11) (q11 : l11.length ≤ c11) (h12 : Kd.C (Kd.int .i64) w A12 l12.length l12) (q12 : l12.length ≤ c12) (h13 : Kd.C (Kd.int .i64) w A13 l13.length l13) (q13 : l13.length ≤ c13) (h14 : Kd.C (Kd.int .i64) w A14 l14.length l14) (q14 : l14.length ≤ c14) (k6 : Kd.C (Kd.int .i64) w B6 m6.length m6) (u6 : m6.length ≤ d6) (k7 : Kd.C (Kd.int .i64) w B7 m7.length m7) (u7 : m7.length ≤ d7) (k8 : Kd.C (Kd.int .i64) w B8 m8.length m8) (u8 : m8.length ≤ d8) (k9 : Kd.C k38 w B9 m9.length m9) (u9 : m9.length ≤ d9) (k10 : Kd.C (Kd.int .i64) w B10 m10.length m10) (u10 : m10.length ≤ d10) (k11 : Kd.C (Kd.int .i64) w B11 m11.length m11) (u11 : m11.length ≤ d11) (k12 : Kd.C (Kd.int .i64) w B12 m12.length m12) (u12 : m12.length ≤ d12) (k13 : Kd.C (Kd.int .i64) w B13 m13.length m13) (u13 : m13.length ≤ d13) (k14 : Kd.C (Kd.int .i64) w B14 m14.length m14) (u14 : m14.length ≤ d14) :
 Calls Tryz.prog 6 #[.agg #[Value.int .i64 a0, Value.int .i64 a1, Value.int .i64 a2, Value.bool a3, Value.int .i64 a4, Value.bool a5, Value.slice A6 l6.length c6, Value.slice A7 l7.length c7, Value.slice A8 l8.length c8, Value.slice A9 l9.length c9, Value.slice A10 l10.length c10, Value.slice A11 l11.length c11, Value.slice A12 l12.length c12, Value.slice A13 l13.length c13, Value.slice A14 l14.length c14, Value.int .i64 a15], .agg #[Value.int .i64 b0, Value.int .i64 b1, Value.int .i64 b2, Value.bool b3, Value.int .i64 b4, Value.bool b5, Value.slice B6 m6.length d6, Value.slice B7 m7.length d7, Value.slice B8 m8.length d8, Value.slice B9 m9.length d9, Value.slice B10 m10.length d10, Value.slice B11 m11.length d11, Value.slice B12 m12.length d12, Value.slice B13 m13.length d13, Value.slice B14 m14.length d14, Value.int .i64 b15], .string s] w fun e w' => e = .returned (.bool true) ∧ Below w.heap.size w w' := by
 by_cases hhv : hvB l6 l7 l8 l9 l10 l11 l12 l13 l14 = true ∨ hvB m6 m7 m8 m9 m10 m11 m12 m13 m14 = true ∨ decide ((s.size : Int) > 1000) = true
 ·exact back_heavy a0 a1 a2 a3 a4 a5 A6 c6 l6 A7 c7 l7 A8 c8 l8 A9 c9 l9 A10 c10 l10 A11 c11 l11 A12 c12 l12 A13 c13 l13 A14 c14 l14 a15 b0 b1 b2 b3 b4 b5 B6 d6 m6 B7 d7 m7 B8 d8 m8 B9 d9 m9 B10 d10 m10 B11 d11 m11 B12 d12 m12 B13 d13 m13 B14 d14 m14 b15 s _ _ _ w h6 q6 h7 q7 h8 q8 h9 q9 h10 q10 h11 q11 h12 q12 h13 q13 h14 q14 k6 u6 k7 u7 k8 u8 k9 u9 k10 u10 k11 u11 k12 u12 k13 u13 k14 u14 ⟨rfl⟩ ⟨rfl⟩ rfl ⟨hhv⟩
 have ha : hvB l6 l7 l8 l9 l10 l11 l12 l13 l14 = false := Bool.eq_false_iff.2 fun h => hhv (Or.inl h)
 have hb : hvB m6 m7 m8 m9 m10 m11 m12 m13 m14 = false := Bool.eq_false_iff.2 fun h => hhv (Or.inr (Or.inl h))
 have hs : s.size ≤ 1000 := by
  by_cases h : s.size ≤ 1000
  ·exact h
  ·exact absurd (Or.inr (Or.inr (decide_eq_true (by omega)))) hhv
 have za := rvOf_sz (a0 := a0) (a1 := a1) (a2 := a2) (a3 := a3) (a4 := a4) (a5 := a5) (a15 := a15) ha
 have zb := rvOf_sz (a0 := b0) (a1 := b1) (a2 := b2) (a3 := b3) (a4 := b4) (a5 := b5) (a15 := b15) hb
 have ra := rvOf_row hQ0 za
 have rb := rvOf_row hQ1 zb
 obtain ⟨xa, eA, hTa, eAc, pa⟩ := text_ex ra za
 obtain ⟨ya, eB, hTb, eBc, pb⟩ := text_ex rb zb
 rw [rvOf_text] at hTa hTb
 rw [rvOf_flat] at pa pb
 obtain ⟨j1, hj1⟩ := lim_some hTa
 obtain ⟨j2, hj2⟩ := lim_some hTb
 obtain ⟨j3, hj3⟩ : ∃ j3, (eA == 0) = true → recur_Parse.f j3 xa = some (a0, a1, a2, a3, a4, a5, l6, l7, l8, l9, l10, l11, l12, l13, l14, a15, 0) := by
  cases h : eA == 0 with
  | true =>
   obtain ⟨j, hj⟩ := lim_some (pa h).2.2
   exact ⟨j, fun _ => hj⟩
  | false => exact ⟨0, fun h => by cases h⟩
 have hK : (eA == 0) = true → (eB == 0) = true → (xa.toList == ya.toList) = ((a0 == b0 && (a1 == b1 && (a2 == b2 && (a3 == b3 && (a4 == b4 && (a5 == b5 && (a15 == b15 && ((l9.length : Int) == (m9.length : Int))))))))) && (decide (l9 = m9) && (decide (l6 = m6) && (decide (l7 = m7) && (decide (l8 = m8) && (decide (l10 = m10) && (decide (l11 = m11) && (decide (l12 = m12) && (decide (l13 = m13) && (decide (l14 = m14))))))))))) := by
  intro h1 h2
  rw [Bool.eq_iff_iff, beq_iff_eq, toList_iff, keepV_iff]
  constructor
  ·intro e
   have g1 := (pa h1).2.2
   rw [e, (pb h2).2.2] at g1
   exact (Option.some.inj g1).symm
  ·intro e
   simp only [Prod.mk.injEq] at e
   obtain ⟨rfl, rfl, rfl, rfl, rfl, rfl, rfl, rfl, rfl, rfl, rfl, rfl, rfl, rfl, rfl, rfl, _⟩ := e
   rw [(pa h1).1, (pb h2).1]
 have hP := Parse_eq s (by omega)
 cases hp : prsS (bytesOf s) with
 | none =>
  rw [hp] at hP
  obtain ⟨j4, hj4⟩ := lim_some hP
  exact back_light a0 a1 a2 a3 a4 a5 A6 c6 l6 A7 c7 l7 A8 c8 l8 A9 c9 l9 A10 c10 l10 A11 c11 l11 A12 c12 l12 A13 c13 l13 A14 c14 l14 a15 b0 b1 b2 b3 b4 b5 B6 d6 m6 B7 d7 m7 B8 d8 m8 B9 d9 m9 B10 d10 m10 B11 d11 m11 B12 d12 m12 B13 d13 m13 B14 d14 m14 b15 s 0 0 0 false 0 false [] [] [] [] [] [] [] [] [] 0 xa ya xa eA eB 21 (eA == 0) (eB == 0) false (a0 == b0 && (a1 == b1 && (a2 == b2 && (a3 == b3 && (a4 == b4 && (a5 == b5 && (a15 == b15 && ((l9.length : Int) == (m9.length : Int))))))))) ((a0 == b0 && (a1 == b1 && (a2 == b2 && (a3 == b3 && (a4 == b4 && (a5 == b5 && (a15 == b15 && ((l9.length : Int) == (m9.length : Int))))))))) && (decide (l9 = m9) && (decide (l6 = m6) && (decide (l7 = m7) && (decide (l8 = m8) && (decide (l10 = m10) && (decide (l11 = m11) && (decide (l12 = m12) && (decide (l13 = m13) && (decide (l14 = m14))))))))))) (decide (l6 = m6)) (decide (l7 = m7)) (decide (l8 = m8)) (decide (l10 = m10)) (decide (l11 = m11)) (decide (l12 = m12)) (decide (l13 = m13)) (decide (l14 = m14)) j1 j2 j3 j4 0 0 w hG h6 q6 h7 q7 h8 q8 h9 q9 h10 q10 h11 q11 h12 q12 h13 q13 h14 q14 k6 u6 k7 u7 k8 u8 k9 u9 k10 u10 k11 u11 k12 u12 k13 u13 k14 u14 ⟨hs⟩ ⟨ha⟩ ⟨hb⟩ rfl rfl rfl ⟨hj1⟩ ⟨hj2⟩ ⟨hj3⟩ ⟨hK⟩ ⟨rfl⟩ ⟨rfl⟩ ⟨hj4⟩ ⟨fun _ => ⟨rfl, rfl, rfl, rfl, rfl, rfl, rfl, rfl, rfl, rfl, rfl, rfl, rfl, rfl, rfl, rfl⟩⟩ ⟨fun h => by cases h⟩ ⟨fun h => by cases h⟩ ⟨by have := za.1 6; exact Nat.le_trans this (by omega)⟩ ⟨by have := za.1 7; exact Nat.le_trans this (by omega)⟩ ⟨by have := za.1 8; exact Nat.le_trans this (by omega)⟩ ⟨by have := za.1 10; exact Nat.le_trans this (by omega)⟩ ⟨by have := za.1 11; exact Nat.le_trans this (by omega)⟩ ⟨by have := za.1 12; exact Nat.le_trans this (by omega)⟩ ⟨by have := za.1 13; exact Nat.le_trans this (by omega)⟩ ⟨by have := za.1 14; exact Nat.le_trans this (by omega)⟩ ⟨Nat.zero_le _⟩ ⟨Nat.zero_le _⟩ ⟨Nat.zero_le _⟩ ⟨Nat.zero_le _⟩ ⟨Nat.zero_le _⟩ ⟨Nat.zero_le _⟩ ⟨Nat.zero_le _⟩ ⟨Nat.zero_le _⟩ ⟨by have := za.2; exact Nat.le_trans this (by omega)⟩ ⟨Nat.zero_le _⟩ ⟨rfl⟩ ⟨rfl⟩ ⟨rfl⟩ ⟨rfl⟩ ⟨rfl⟩ ⟨rfl⟩ ⟨rfl⟩ ⟨rfl⟩
 | some z =>
  rw [hp] at hP
  obtain ⟨zk, zr, zz⟩ := prsS_some (by rw [bytesOf_length]; exact hs) hp
  obtain ⟨z1, z2⟩ := round zk zr zz
  obtain ⟨j4, hj4⟩ := lim_some hP
  obtain ⟨j5, hj5⟩ := lim_some z1
  obtain ⟨j6, hj6⟩ := lim_some z2
  exact back_light a0 a1 a2 a3 a4 a5 A6 c6 l6 A7 c7 l7 A8 c8 l8 A9 c9 l9 A10 c10 l10 A11 c11 l11 A12 c12 l12 A13 c13 l13 A14 c14 l14 a15 b0 b1 b2 b3 b4 b5 B6 d6 m6 B7 d7 m7 B8 d8 m8 B9 d9 m9 B10 d10 m10 B11 d11 m11 B12 d12 m12 B13 d13 m13 B14 d14 m14 b15 s (z.n 0) (z.n 1) (z.n 2) z.u z.t z.z (z.l 6) (z.l 7) (z.l 8) z.d (z.l 10) (z.l 11) (z.l 12) (z.l 13) (z.l 14) (z.n 15) xa ya (strOfNums (txV z)) eA eB 0 (eA == 0) (eB == 0) true (a0 == b0 && (a1 == b1 && (a2 == b2 && (a3 == b3 && (a4 == b4 && (a5 == b5 && (a15 == b15 && ((l9.length : Int) == (m9.length : Int))))))))) ((a0 == b0 && (a1 == b1 && (a2 == b2 && (a3 == b3 && (a4 == b4 && (a5 == b5 && (a15 == b15 && ((l9.length : Int) == (m9.length : Int))))))))) && (decide (l9 = m9) && (decide (l6 = m6) && (decide (l7 = m7) && (decide (l8 = m8) && (decide (l10 = m10) && (decide (l11 = m11) && (decide (l12 = m12) && (decide (l13 = m13) && (decide (l14 = m14))))))))))) (decide (l6 = m6)) (decide (l7 = m7)) (decide (l8 = m8)) (decide (l10 = m10)) (decide (l11 = m11)) (decide (l12 = m12)) (decide (l13 = m13)) (decide (l14 = m14)) j1 j2 j3 j4 j5 j6 w hG h6 q6 h7 q7 h8 q8 h9 q9 h10 q10 h11 q11 h12 q12 h13 q13 h14 q14 k6 u6 k7 u7 k8 u8 k9 u9 k10 u10 k11 u11 k12 u12 k13 u13 k14 u14 ⟨hs⟩ ⟨ha⟩ ⟨hb⟩ rfl rfl rfl ⟨hj1⟩ ⟨hj2⟩ ⟨hj3⟩ ⟨hK⟩ ⟨rfl⟩ ⟨rfl⟩ ⟨hj4⟩ ⟨fun h => by cases h⟩ ⟨fun _ => hj5⟩ ⟨fun _ => hj6⟩ ⟨by have := za.1 6; exact Nat.le_trans this (by omega)⟩ ⟨by have := za.1 7; exact Nat.le_trans this (by omega)⟩ ⟨by have := za.1 8; exact Nat.le_trans this (by omega)⟩ ⟨by have := za.1 10; exact Nat.le_trans this (by omega)⟩ ⟨by have := za.1 11; exact Nat.le_trans this (by omega)⟩ ⟨by have := za.1 12; exact Nat.le_trans this (by omega)⟩ ⟨by have := za.1 13; exact Nat.le_trans this (by omega)⟩ ⟨by have := za.1 14; exact Nat.le_trans this (by omega)⟩ ⟨by have := zz.1 6; exact Nat.le_trans this (by omega)⟩ ⟨by have := zz.1 7; exact Nat.le_trans this (by omega)⟩ ⟨by have := zz.1 8; exact Nat.le_trans this (by omega)⟩ ⟨by have := zz.1 10; exact Nat.le_trans this (by omega)⟩ ⟨by have := zz.1 11; exact Nat.le_trans this (by omega)⟩ ⟨by have := zz.1 12; exact Nat.le_trans this (by omega)⟩ ⟨by have := zz.1 13; exact Nat.le_trans this (by omega)⟩ ⟨by have := zz.1 14; exact Nat.le_trans this (by omega)⟩ ⟨by have := za.2; exact Nat.le_trans this (by omega)⟩ ⟨by have := zz.2; exact Nat.le_trans this (by omega)⟩ ⟨rfl⟩ ⟨rfl⟩ ⟨rfl⟩ ⟨rfl⟩ ⟨rfl⟩ ⟨rfl⟩ ⟨rfl⟩ ⟨rfl⟩
end Go.Proofs.YtjanombhdnoemaaGreatDoor.PRec
