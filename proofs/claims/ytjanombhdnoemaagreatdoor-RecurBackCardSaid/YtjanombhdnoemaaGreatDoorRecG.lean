-- A text of the kit's tools for this claim, its remarks left out.
import Derived.Test.YtjanombhdnoemaaGreatDoorRecE
import Derived.Test.YtjanombhdnoemaaGreatDoorRecF
import Derived.Test.YtjanombhdnoemaaGreatDoorPRecx6
import Derived.Test.YtjanombhdnoemaaGreatDoorPRecx5
import Derived.Test.YtjanombhdnoemaaGreatDoorPRecx7
namespace Go.Proofs.YtjanombhdnoemaaGreatDoor.PRec
open Go.RowKit Go.Proofs.YtjanombhdnoemaaGreatDoorW.PrintWords Go.Proofs.YtjanombhdnoemaaGreatDoorW.PrintLast Go.Proofs.YtjanombhdnoemaaGreatDoorW.PrintMore Go.Proofs.YtjanombhdnoemaaGreatDoor.Base
attribute [local go_sem] max2_int min2_int max_two min_two max_three min_three max_four min_four
set_option linter.unusedVariables false
set_option linter.unusedSimpArgs false
def rt_add (o : List ByteArray) (p t : ByteArray) : Option (List ByteArray) := if p.size + t.size ≤ 9223372036854775807 then (if o.length < 8796093022208 then some (o ++ [p ++ t]) else none) else none
def rt_num (p : ByteArray) (m a : Int) (o : List ByteArray) : Option (List ByteArray) := if a > m then ((num_Text.f a 1).bind fun t => rt_add o p t) else some o
def rt_until (k : Nat) (a3 : Bool) (a4 : Int) (a5 : Bool) (o : List ByteArray) : Option (List ByteArray) := if a3 = true then ((value_Time.f k a4 a5).bind fun b => rt_add o (⟨#[85, 78, 84, 73, 76, 61]⟩ : ByteArray) b.1) else some o
def rt_lists (k : Nat) (ls : List (ByteArray × List Int)) (o : List ByteArray) : Option (List ByteArray) := (recur_texts.f k ls).bind fun ts => if o.length + ts.length ≤ 8796093022208 then some (o ++ ts) else none
def rt_day (x : S38) : Option ByteArray := recur_weekdays.f.bind fun wd => if 0 ≤ x.f1 then (if x.f1 < (wd.length : Int) then (if x.f0 = 0 then some (rdOf ByteArray.empty wd x.f1) else ((recur_signed.f x.f0).bind fun t => if t.size + (rdOf ByteArray.empty wd x.f1).size ≤ 9223372036854775807 then some (t ++ rdOf ByteArray.empty wd x.f1) else none)) else none) else none
def rt_words : Nat → List S38 → List ByteArray → Int → Option (List ByteArray)
 | 0, _, _, _ => none
 | k + 1, x0, x1, x2 => if x2 < (x0.length : Int) then (if 0 ≤ x2 then ((rt_day (rd_T38 x0 x2)).bind fun t => (if x1.length < 8796093022208 then rt_words k x0 (x1 ++ [t]) (wrap64 (x2 + 1)) else none)) else none) else some x1
def rt_byday (ws o : List ByteArray) : Option (List ByteArray) := if (ws.length : Int) > 0 then ((strings_Join.f ws (⟨#[44]⟩ : ByteArray)).bind fun t => rt_add o (⟨#[66, 89, 68, 65, 89, 61]⟩ : ByteArray) t) else some o
def rt_wkst (a15 : Int) (o : List ByteArray) : Option (List ByteArray) := if a15 = 1 then some o else (recur_weekdays.f.bind fun wd => if 0 ≤ a15 then (if a15 < (wd.length : Int) then rt_add o (⟨#[87, 75, 83, 84, 61]⟩ : ByteArray) (rdOf ByteArray.empty wd a15) else none) else none)
def rt_bef (l13 l12 l11 l10 : List Int) : List (ByteArray × List Int) := [((⟨#[66, 89, 77, 79, 78, 84, 72]⟩ : ByteArray), l13), ((⟨#[66, 89, 87, 69, 69, 75, 78, 79]⟩ : ByteArray), l12), ((⟨#[66, 89, 89, 69, 65, 82, 68, 65, 89]⟩ : ByteArray), l11), ((⟨#[66, 89, 77, 79, 78, 84, 72, 68, 65, 89]⟩ : ByteArray), l10)]
def rt_beh (l8 l7 l6 l14 : List Int) : List (ByteArray × List Int) := [((⟨#[66, 89, 72, 79, 85, 82]⟩ : ByteArray), l8), ((⟨#[66, 89, 77, 73, 78, 85, 84, 69]⟩ : ByteArray), l7), ((⟨#[66, 89, 83, 69, 67, 79, 78, 68]⟩ : ByteArray), l6), ((⟨#[66, 89, 83, 69, 84, 80, 79, 83]⟩ : ByteArray), l14)]
def rt_go (k : Nat) (a1 : Int) (a2 : Int) (a3 : Bool) (a4 : Int) (a5 : Bool) (l6 : List Int) (l7 : List Int) (l8 : List Int) (l9 : List (S38)) (l10 : List Int) (l11 : List Int) (l12 : List Int) (l13 : List Int) (l14 : List Int) (a15 : Int) (o : List ByteArray) : Option (ByteArray × Int) := (rt_num (⟨#[73, 78, 84, 69, 82, 86, 65, 76, 61]⟩ : ByteArray) 1 a1 o).bind fun o1 => (rt_num (⟨#[67, 79, 85, 78, 84, 61]⟩ : ByteArray) 0 a2 o1).bind fun o2 => (rt_until k a3 a4 a5 o2).bind fun o3 => (rt_lists k (rt_bef l13 l12 l11 l10) o3).bind fun o4 => (rt_words k l9 ([] : List ByteArray) 0).bind fun ws => (rt_byday ws o4).bind fun o5 => (rt_lists k (rt_beh l8 l7 l6 l14) o5).bind fun o6 => (rt_wkst a15 o6).bind fun o7 => (strings_Join.f o7 (⟨#[59]⟩ : ByteArray)).bind fun s => some (s, (0 : Int))
def recur_Text.f (k : Nat) (a0 : Int) (a1 : Int) (a2 : Int) (a3 : Bool) (a4 : Int) (a5 : Bool) (l6 : List Int) (l7 : List Int) (l8 : List Int) (l9 : List (S38)) (l10 : List Int) (l11 : List Int) (l12 : List Int) (l13 : List Int) (l14 : List Int) (a15 : Int) : Option (ByteArray × Int) := (recur_Check.f k a0 a1 a2 a3 a4 a5 l6 l7 l8 l9 l10 l11 l12 l13 l14 a15).bind fun e => if e = 0 then (recur_freqs.f.bind fun fr => (if 0 ≤ wrap64 (a0 - 1) then (if wrap64 (a0 - 1) < (fr.length : Int) then (if 5 + (rdOf ByteArray.empty fr (wrap64 (a0 - 1))).size ≤ 9223372036854775807 then rt_go k a1 a2 a3 a4 a5 l6 l7 l8 l9 l10 l11 l12 l13 l14 a15 [(⟨#[70, 82, 69, 81, 61]⟩ : ByteArray) ++ (rdOf ByteArray.empty fr (wrap64 (a0 - 1)))] else none) else none) else none)) else some ((⟨#[]⟩ : ByteArray), e)
theorem rt_until.mono : ∀ k a3 a4 a5 o, LeO (rt_until k a3 a4 a5 o) (rt_until (k + 1) a3 a4 a5 o) := by
  intro k a3 a4 a5 o
  unfold rt_until
  exact LeO.ite (LeO.bind (value_Time.mono _ _ _) (fun _ => LeO.refl _)) (LeO.refl _)
theorem rt_lists.mono : ∀ k ls o, LeO (rt_lists k ls o) (rt_lists (k + 1) ls o) := by
  intro k ls o
  unfold rt_lists
  exact LeO.bind (recur_texts.mono _ _) (fun _ => LeO.refl _)
theorem rt_words.mono : ∀ k x0 x1 x2, LeO (rt_words k x0 x1 x2) (rt_words (k + 1) x0 x1 x2)
  | 0, _, _, _ => fun r h => by simp [rt_words] at h
  | k + 1, x0, x1, x2 => by
    unfold rt_words
    exact LeO.ite (LeO.ite (LeO.bind (LeO.refl _) (fun _ => LeO.ite (rt_words.mono k _ _ _) (LeO.none _))) (LeO.none _)) (LeO.refl _)
theorem recur_Text.mono : ∀ a0 a1 a2 a3 a4 a5 l6 l7 l8 l9 l10 l11 l12 l13 l14 a15 k, LeO (recur_Text.f k a0 a1 a2 a3 a4 a5 l6 l7 l8 l9 l10 l11 l12 l13 l14 a15) (recur_Text.f (k + 1) a0 a1 a2 a3 a4 a5 l6 l7 l8 l9 l10 l11 l12 l13 l14 a15) := by
  intro a0 a1 a2 a3 a4 a5 l6 l7 l8 l9 l10 l11 l12 l13 l14 a15 k
  unfold recur_Text.f rt_go
  repeat' first | (with_reducible first | exact recur_Check.mono _ _ _ _ _ _ _ _ _ _ _ _ _ _ _ _ _ | exact rt_until.mono _ _ _ _ _ | exact rt_lists.mono _ _ _ | exact rt_words.mono _ _ _ _ | exact LeO.refl _ | exact LeO.none _ | refine LeO.ite ?_ ?_ | refine LeO.bind ?_ (fun _ => ?_))
theorem text_bef {w : World} {gb : Nat} (a0 a1 a2 : Int) (a3 : Bool) (a4 : Int) (a5 : Bool) (A6 : Option Addr) (c6 : Nat) (l6 : List Int) (A7 : Option Addr) (c7 : Nat) (l7 : List Int) (A8 : Option Addr) (c8 : Nat) (l8 : List Int) (A9 : Option Addr) (c9 : Nat) (l9 : List S38) (A10 : Option Addr) (c10 : Nat) (l10 : List Int) (A11 : Option Addr) (c11 : Nat) (l11 : List Int) (A12 : Option Addr) (c12 : Nat) (l12 : List Int) (A13 : Option Addr) (c13 : Nat) (l13 : List Int) (A14 : Option Addr) (c14 : Nat) (l14 : List Int) (a15 : Int) (r13 r12 r11 r10 : Bool) (h : w.heap[gb]? = some (.cells #[Value.int .i64 a0, Value.int .i64 a1, Value.int .i64 a2, Value.bool a3, Value.int .i64 a4, Value.bool a5, Value.slice A6 l6.length c6, Value.slice A7 l7.length c7, Value.slice A8 l8.length c8, Value.slice A9 l9.length c9, Value.slice A10 l10.length c10, Value.slice A11 l11.length c11, Value.slice A12 l12.length c12, Value.slice A13 l13.length c13, Value.slice A14 l14.length c14, Value.int .i64 a15] 25 (0, 0))) (h6 : Kd.C (Kd.int .i64) w A6 l6.length l6) (q6 : l6.length ≤ c6) (h7 : Kd.C (Kd.int .i64) w A7 l7.length l7) (q7 : l7.length ≤ c7) (h8 : Kd.C (Kd.int .i64) w A8 l8.length l8) (q8 : l8.length ≤ c8) (h9 : Kd.C k38 w A9 l9.length l9) (q9 : l9.length ≤ c9) (h10 : Kd.C (Kd.int .i64) w A10 l10.length l10) (q10 : l10.length ≤ c10) (h11 : Kd.C (Kd.int .i64) w A11 l11.length l11) (q11 : l11.length ≤ c11) (h12 : Kd.C (Kd.int .i64) w A12 l12.length l12) (q12 : l12.length ≤ c12) (h13 : Kd.C (Kd.int .i64) w A13 l13.length l13) (q13 : l13.length ≤ c13) (h14 : Kd.C (Kd.int .i64) w A14 l14.length l14) (q14 : l14.length ≤ c14) : ∀ x ∈ beforeL gb A13 c13 l13 r13 A12 c12 l12 r12 A11 c11 l11 r11 A10 c10 l10 r10, w.cell? x.p = some (.slice x.A x.l.length x.c) ∧ Kd.C (Kd.int .i64) w x.A x.l.length x.l ∧ x.l.length ≤ x.c := by
  intro x hx
  simp only [beforeL, behindL, List.mem_cons, List.not_mem_nil, or_false] at hx
  rcases hx with rfl | rfl | rfl | rfl
  · exact ⟨(blk_cell h 13).trans rfl, h13, q13⟩
  · exact ⟨(blk_cell h 12).trans rfl, h12, q12⟩
  · exact ⟨(blk_cell h 11).trans rfl, h11, q11⟩
  · exact ⟨(blk_cell h 10).trans rfl, h10, q10⟩
theorem text_beh {w : World} {gb : Nat} (a0 a1 a2 : Int) (a3 : Bool) (a4 : Int) (a5 : Bool) (A6 : Option Addr) (c6 : Nat) (l6 : List Int) (A7 : Option Addr) (c7 : Nat) (l7 : List Int) (A8 : Option Addr) (c8 : Nat) (l8 : List Int) (A9 : Option Addr) (c9 : Nat) (l9 : List S38) (A10 : Option Addr) (c10 : Nat) (l10 : List Int) (A11 : Option Addr) (c11 : Nat) (l11 : List Int) (A12 : Option Addr) (c12 : Nat) (l12 : List Int) (A13 : Option Addr) (c13 : Nat) (l13 : List Int) (A14 : Option Addr) (c14 : Nat) (l14 : List Int) (a15 : Int) (r8 r7 r6 r14 : Bool) (h : w.heap[gb]? = some (.cells #[Value.int .i64 a0, Value.int .i64 a1, Value.int .i64 a2, Value.bool a3, Value.int .i64 a4, Value.bool a5, Value.slice A6 l6.length c6, Value.slice A7 l7.length c7, Value.slice A8 l8.length c8, Value.slice A9 l9.length c9, Value.slice A10 l10.length c10, Value.slice A11 l11.length c11, Value.slice A12 l12.length c12, Value.slice A13 l13.length c13, Value.slice A14 l14.length c14, Value.int .i64 a15] 25 (0, 0))) (h6 : Kd.C (Kd.int .i64) w A6 l6.length l6) (q6 : l6.length ≤ c6) (h7 : Kd.C (Kd.int .i64) w A7 l7.length l7) (q7 : l7.length ≤ c7) (h8 : Kd.C (Kd.int .i64) w A8 l8.length l8) (q8 : l8.length ≤ c8) (h9 : Kd.C k38 w A9 l9.length l9) (q9 : l9.length ≤ c9) (h10 : Kd.C (Kd.int .i64) w A10 l10.length l10) (q10 : l10.length ≤ c10) (h11 : Kd.C (Kd.int .i64) w A11 l11.length l11) (q11 : l11.length ≤ c11) (h12 : Kd.C (Kd.int .i64) w A12 l12.length l12) (q12 : l12.length ≤ c12) (h13 : Kd.C (Kd.int .i64) w A13 l13.length l13) (q13 : l13.length ≤ c13) (h14 : Kd.C (Kd.int .i64) w A14 l14.length l14) (q14 : l14.length ≤ c14) : ∀ x ∈ behindL gb A8 c8 l8 r8 A7 c7 l7 r7 A6 c6 l6 r6 A14 c14 l14 r14, w.cell? x.p = some (.slice x.A x.l.length x.c) ∧ Kd.C (Kd.int .i64) w x.A x.l.length x.l ∧ x.l.length ≤ x.c := by
  intro x hx
  simp only [beforeL, behindL, List.mem_cons, List.not_mem_nil, or_false] at hx
  rcases hx with rfl | rfl | rfl | rfl
  · exact ⟨(blk_cell h 8).trans rfl, h8, q8⟩
  · exact ⟨(blk_cell h 7).trans rfl, h7, q7⟩
  · exact ⟨(blk_cell h 6).trans rfl, h6, q6⟩
  · exact ⟨(blk_cell h 14).trans rfl, h14, q14⟩
def tt_.T4 : Bool × List (List Nat × List Nat) := (true, [([], []), ([], []), ([1], [1]), ([2], [2]), ([0, 3], [0, 3]), ([4], [4]), ([5], [5]), ([6], [6]), ([7, 0, 0, 1, 2, 3, 4, 5, 6, 7], [7])])
def tt_.B4 : List Nat := [0, 0, 2, 6, 15, 31, 63, 127, 255]
theorem tt_.tab4 : rtab .any (opsOf Tryz.f11 4) = tt_.T4 := by kernel_rfl
theorem tt_.bits4 : waitsOk tt_.T4.2 tt_.B4 = true := by kernel_rfl
def tt_.T17 : Bool × List (List Nat × List Nat) := (true, [([], []), ([], []), ([1], [1]), ([0, 2], [0, 2]), ([3], [3]), ([4, 0, 0, 1, 2, 3, 4], [4])])
def tt_.B17 : List Nat := [0, 0, 2, 7, 15, 31]
theorem tt_.tab17 : rtab .any (opsOf Tryz.f11 17) = tt_.T17 := by kernel_rfl
theorem tt_.bits17 : waitsOk tt_.T17.2 tt_.B17 = true := by kernel_rfl
def tt_.T26 : Bool × List (List Nat × List Nat) := (true, [([], []), ([], []), ([], []), ([2], [2]), ([1, 3], [1, 3]), ([4], [4]), ([5], [5]), ([6], [6]), ([0, 7, 1], [0, 7]), ([8, 8, 0, 1, 2, 3, 4, 5, 6, 7, 8], [0, 8])])
def tt_.B26 : List Nat := [0, 0, 0, 4, 14, 30, 62, 126, 255, 511]
theorem tt_.tab26 : rtab .any (opsOf Tryz.f11 26) = tt_.T26 := by kernel_rfl
theorem tt_.bits26 : waitsOk tt_.T26.2 tt_.B26 = true := by kernel_rfl
set_option maxHeartbeats 16000000 in
set_option maxRecDepth 100000 in
theorem recur_Text.calls (k : Nat) (a0 a1 a2 : Int) (a3 : Bool) (a4 : Int) (a5 : Bool) (A6 : Option Addr) (c6 : Nat) (l6 : List Int) (A7 : Option Addr) (c7 : Nat) (l7 : List Int) (A8 : Option Addr) (c8 : Nat) (l8 : List Int) (A9 : Option Addr) (c9 : Nat) (l9 : List S38) (A10 : Option Addr) (c10 : Nat) (l10 : List Int) (A11 : Option Addr) (c11 : Nat) (l11 : List Int) (A12 : Option Addr) (c12 : Nat) (l12 : List Int) (A13 : Option Addr) (c13 : Nat) (l13 : List Int) (A14 : Option Addr) (c14 : Nat) (l14 : List Int) (a15 : Int) (r1 : ByteArray) (r2 : Int) (w : World) (hG : GP w) (h6 : Kd.C (Kd.int .i64) w A6 l6.length l6) (q6 : l6.length ≤ c6) (h7 : Kd.C (Kd.int .i64) w A7 l7.length l7) (q7 : l7.length ≤ c7) (h8 : Kd.C (Kd.int .i64) w A8 l8.length l8) (q8 : l8.length ≤ c8) (h9 : Kd.C k38 w A9 l9.length l9) (q9 : l9.length ≤ c9) (h10 : Kd.C (Kd.int .i64) w A10 l10.length l10) (q10 : l10.length ≤ c10) (h11 : Kd.C (Kd.int .i64) w A11 l11.length l11) (q11 : l11.length ≤ c11) (h12 : Kd.C (Kd.int .i64) w A12 l12.length l12) (q12 : l12.length ≤ c12) (h13 : Kd.C (Kd.int .i64) w A13 l13.length l13) (q13 : l13.length ≤ c13) (h14 : Kd.C (Kd.int .i64) w A14 l14.length l14) (q14 : l14.length ≤ c14) (h : recur_Text.f k a0 a1 a2 a3 a4 a5 l6 l7 l8 l9 l10 l11 l12 l13 l14 a15 = some (r1, r2)) :
  Calls Tryz.prog 11 #[.agg #[Value.int .i64 a0, Value.int .i64 a1, Value.int .i64 a2, Value.bool a3, Value.int .i64 a4, Value.bool a5, Value.slice A6 l6.length c6, Value.slice A7 l7.length c7, Value.slice A8 l8.length c8, Value.slice A9 l9.length c9, Value.slice A10 l10.length c10, Value.slice A11 l11.length c11, Value.slice A12 l12.length c12, Value.slice A13 l13.length c13, Value.slice A14 l14.length c14, Value.int .i64 a15]] w fun e w' => e = .returned (.tuple #[.string r1, .int .i64 r2]) ∧ Below w.heap.size w w' := by
  have HG := Aside0.mk hG
  clear hG
  have H6 := Aside0.mk h6; have Q6 := Aside0.mk q6
  have H7 := Aside0.mk h7; have Q7 := Aside0.mk q7
  have H8 := Aside0.mk h8; have Q8 := Aside0.mk q8
  have H9 := Aside0.mk h9; have Q9 := Aside0.mk q9
  have H10 := Aside0.mk h10; have Q10 := Aside0.mk q10
  have H11 := Aside0.mk h11; have Q11 := Aside0.mk q11
  have H12 := Aside0.mk h12; have Q12 := Aside0.mk q12
  have H13 := Aside0.mk h13; have Q13 := Aside0.mk q13
  have H14 := Aside0.mk h14; have Q14 := Aside0.mk q14
  clear h6 q6 h7 q7 h8 q8 h9 q9 h10 q10 h11 q11 h12 q12 h13 q13 h14 q14
  have hu25 := Tryz.underlying25
  have hu38 := Tryz.underlying38
  unfold recur_Text.f at h
  obtain ⟨e_, h0, h⟩ := Option.bind_eq_some_iff.1 h
  have E0 := Aside0.mk h0
  clear h0
  by_cases d0 : e_ = 0
  rotate_left
  · rw [if_neg d0] at h
    simp only [Option.some.injEq, Prod.mk.injEq] at h
    obtain ⟨rfl, rfl⟩ := h
    have d1 : (e_ == 0) = false := beq_eq_false_iff_ne.mpr d0
    have d2 : (e_ != 0) = true := bne_iff_ne.mpr d0
    clear d0
    as_aux_lemma =>
      go_enter Tryz.func11, Tryz.ntmps11
      go_wp2_with (first | ((with_reducible refine gate_dst (N := 1) rfl ?_); refine box_event ?hg (N := 1) ?hd (cs := #[Value.int .i64 a0, Value.int .i64 a1, Value.int .i64 a2, Value.bool a3, Value.int .i64 a4, Value.bool a5, Value.slice A6 l6.length c6, Value.slice A7 l7.length c7, Value.slice A8 l8.length c8, Value.slice A9 l9.length c9, Value.slice A10 l10.length c10, Value.slice A11 l11.length c11, Value.slice A12 l12.length c12, Value.slice A13 l13.length c13, Value.slice A14 l14.length c14, Value.int .i64 a15]) (t := 25) ?hr ?_; (case hd => rfl); (case hg => rfl); (case hr => first | (go_simp; done) | (go_simp; rfl)); intro gb hg w3 hbox hb; have HB0 := Aside0.mk hb; have BK0 := Aside0.mk hbox; obtain ⟨Ya_0, Ya_1, Ya_2, Ya_3, Ya_4, Ya_5, Ya_6, Ya_7, Ya_8, Ya_9, Ya_10, Ya_11, Ya_12, Ya_13, Ya_14, Ya_15⟩ := rc_cells a0 a1 a2 a3 a4 a5 A6 c6 l6 A7 c7 l7 A8 c8 l8 A9 c9 l9 A10 c10 l10 A11 c11 l11 A12 c12 l12 A13 c13 l13 A14 c14 l14 a15 hbox; clear hb hbox hg) | (go_at_call 18; (with_reducible refine (recur_Check.calls k a0 a1 a2 a3 a4 a5 A6 c6 l6 A7 c7 l7 A8 c8 l8 A9 c9 l9 A10 c10 l10 A11 c11 l11 A12 c12 l12 A13 c13 l13 A14 c14 l14 a15 _ _ (Kd.C_below H6.out HB0.out) Q6.out (Kd.C_below H7.out HB0.out) Q7.out (Kd.C_below H8.out HB0.out) Q8.out (Kd.C_below H9.out HB0.out) Q9.out (Kd.C_below H10.out HB0.out) Q10.out (Kd.C_below H11.out HB0.out) Q11.out (Kd.C_below H12.out HB0.out) Q12.out (Kd.C_below H13.out HB0.out) Q13.out (Kd.C_below H14.out HB0.out) Q14.out E0.out).mono ?_); rintro e w4 ⟨rfl, hb⟩; have HB1 := Aside0.mk (below_then HB0.out HB0.out.size hb); have BK1 := Aside0.mk (blk_below BK0.out hb); clear hb))
      go_ret2
      exact ⟨by rfl, HB1.out⟩
  · rw [if_pos d0] at h
    subst d0
    obtain ⟨fr, hfr, h⟩ := Option.bind_eq_some_iff.1 h
    by_cases p0 : 0 ≤ wrap64 (a0 - 1)
    rotate_left
    · rw [if_neg p0] at h; cases h
    rw [if_pos p0] at h
    by_cases p1 : wrap64 (a0 - 1) < (fr.length : Int)
    rotate_left
    · rw [if_neg p1] at h; cases h
    rw [if_pos p1] at h
    by_cases p2 : 5 + (rdOf ByteArray.empty fr (wrap64 (a0 - 1))).size ≤ 9223372036854775807
    rotate_left
    · rw [if_neg p2] at h; cases h
    rw [if_pos p2] at h
    have FR := Aside0.mk hfr
    have HH := Aside0.mk h
    have P0 := Aside0.mk p0
    have P1 := Aside0.mk p1
    have p0e := eq_true p0
    have p1e := eq_true p1
    have p2e : (9223372036854775807 < 5 + (rdOf ByteArray.empty fr (wrap64 (a0 - 1))).size) = False := eq_false (Nat.not_lt.2 p2)
    clear hfr h p0 p1 p2
    go_enter Tryz.func11, Tryz.ntmps11
    go_wp2_with (first | ((with_reducible refine gate_dst (N := 1) rfl ?_); refine box_event ?hg (N := 1) ?hd (cs := #[Value.int .i64 a0, Value.int .i64 a1, Value.int .i64 a2, Value.bool a3, Value.int .i64 a4, Value.bool a5, Value.slice A6 l6.length c6, Value.slice A7 l7.length c7, Value.slice A8 l8.length c8, Value.slice A9 l9.length c9, Value.slice A10 l10.length c10, Value.slice A11 l11.length c11, Value.slice A12 l12.length c12, Value.slice A13 l13.length c13, Value.slice A14 l14.length c14, Value.int .i64 a15]) (t := 25) ?hr ?_; (case hd => rfl); (case hg => rfl); (case hr => first | (go_simp; done) | (go_simp; rfl)); intro gb hg w3 hbox hb; have HB0 := Aside0.mk hb; have BK0 := Aside0.mk hbox; obtain ⟨Ya_0, Ya_1, Ya_2, Ya_3, Ya_4, Ya_5, Ya_6, Ya_7, Ya_8, Ya_9, Ya_10, Ya_11, Ya_12, Ya_13, Ya_14, Ya_15⟩ := rc_cells a0 a1 a2 a3 a4 a5 A6 c6 l6 A7 c7 l7 A8 c8 l8 A9 c9 l9 A10 c10 l10 A11 c11 l11 A12 c12 l12 A13 c13 l13 A14 c14 l14 a15 hbox; clear hb hbox hg) | (go_at_call 18; (with_reducible refine (recur_Check.calls k a0 a1 a2 a3 a4 a5 A6 c6 l6 A7 c7 l7 A8 c8 l8 A9 c9 l9 A10 c10 l10 A11 c11 l11 A12 c12 l12 A13 c13 l13 A14 c14 l14 a15 _ _ (Kd.C_below H6.out HB0.out) Q6.out (Kd.C_below H7.out HB0.out) Q7.out (Kd.C_below H8.out HB0.out) Q8.out (Kd.C_below H9.out HB0.out) Q9.out (Kd.C_below H10.out HB0.out) Q10.out (Kd.C_below H11.out HB0.out) Q11.out (Kd.C_below H12.out HB0.out) Q12.out (Kd.C_below H13.out HB0.out) Q13.out (Kd.C_below H14.out HB0.out) Q14.out E0.out).mono ?_); rintro e w4 ⟨rfl, hb⟩; have HB1 := Aside0.mk (below_then HB0.out HB0.out.size hb); have BK1 := Aside0.mk (blk_below BK0.out hb); clear hb))
    clear E0 Ya_0 Ya_1 Ya_2 Ya_3 Ya_4 Ya_5 Ya_6 Ya_7 Ya_8 Ya_9 Ya_10 Ya_11 Ya_12 Ya_13 Ya_14 Ya_15
    replace HB1 := Aside0.mk (below_drew1 HB1.out)
    replace BK1 := Aside0.mk (blk_drew BK1.out)
    have c0 := (blk_cell BK1.out 0).trans rfl
    refine start_ (n := 9) (S := fun w' => w'.cell? ⟨gb, 0, none⟩ = some (.int .i64 a0)) (ds := []) #[false, false, false, false, false, false, false, false, false] (by kernel_rfl) rfl rfl c0 (fun hHeld => ?_); refine with_tabW tt_.tab4 tt_.bits4 (fun HT_ HW_ => ?_)
    generalize w4.drew = wd at HB1 BK1 hHeld ⊢
    clear c0
    refine pure_ (i := 1) (N := some 18) (v := ?_) (a' := ?_) #[false, true, false, false, false, false, false, false, false] rfl rfl (any_of HT_.out (by kernel_rfl)) (fun _ _ _ h => h) (Or.inl ⟨by rfl, ?_⟩) ?_ ?_
    rotate_left
    · intro w'
      go_simp
      with_reducible rfl
    rotate_left
    · simp only [Act.put, List.setIfInBounds_toArray, List.set_cons_zero, List.set_cons_succ, i64_w, i32_w]
      rfl
    refine take_ (i := 2) (N := some 19) (v := ?_) (a' := ?_) #[false, true, true, false, false, false, false, false, false] rfl rfl (take_ofW HT_.out HW_.out (by kernel_rfl)) (fun _ _ _ h => h) (Or.inl ⟨by rfl, ?_⟩) hHeld ?_ ?_
    rotate_left
    · rintro w' s0
      go_simp
      with_reducible rfl
    rotate_left
    · simp only [Act.put, List.setIfInBounds_toArray, List.set_cons_zero, List.set_cons_succ, i64_w, i32_w]
      rfl
    refine pure_ (i := 3) (N := some 20) (v := ?_) (a' := ?_) #[false, true, true, true, false, false, false, false, false] rfl rfl (any_of HT_.out (by kernel_rfl)) (fun _ _ _ h => h) (Or.inl ⟨by rfl, ?_⟩) ?_ ?_
    rotate_left
    · intro w'
      go_simp
      with_reducible rfl
    rotate_left
    · simp only [Act.put, List.setIfInBounds_toArray, List.set_cons_zero, List.set_cons_succ, i64_w, i32_w]
      rfl
    refine one_ (i := 0) (N := some 17) #[true, true, true, true, false, false, false, false, false] rfl rfl (one_of HT_.out (by kernel_rfl)) (by decide) (fun K hK => ?_)
    refine goes_ Tryz.func23 (by kernel_rfl) rfl #[] (by rfl) rfl rfl (by (try simp only [List.map_toArray, List.map_cons, List.map_nil]); first | done | rfl) ?_
    (with_reducible refine (recur_freqs.calls fr _ FR.out).mono ?_)
    rintro e w5 ⟨v17, rfl, ho, hb⟩
    refine ⟨_, rfl, ?_⟩
    have HB2 := Aside0.mk (below_then HB1.out HB1.out.size hb); have BK2 := Aside0.mk (blk_below BK1.out hb)
    obtain ⟨Af, cf, ef⟩ := Kd.R_slice ho
    subst ef
    obtain ⟨adf, ef2, hxf⟩ := Kd.at_string (Kd.R_reads' ho).2.2 (wrap64 (a0 - 1)) P0.out P1.out
    cases ef2
    clear ho hb
    refine hK.out _ _ ((blk_cell BK2.out 0).trans rfl) (fun hHeld => ?_)
    clear hK K
    refine norm_ (a' := ?_) ?_ ?_
    rotate_left
    · show Act.put _ (some 17) _ = _
      simp only [Act.put, List.setIfInBounds_toArray, List.set_cons_zero, List.set_cons_succ, i64_w, i32_w]
      rfl
    refine pure_ (i := 4) (N := some 21) (v := ?_) (a' := ?_) #[true, true, true, true, true, false, false, false, false] rfl rfl (any_of HT_.out (by kernel_rfl)) (fun _ _ _ h => h) (Or.inl ⟨by rfl, ?_⟩) ?_ ?_
    rotate_left
    · intro w'
      go_simp
      with_reducible rfl
    rotate_left
    · simp only [Act.put, List.setIfInBounds_toArray, List.set_cons_zero, List.set_cons_succ, i64_w, i32_w]
      rfl
    refine one_ (i := 5) (N := some 22) #[true, true, true, true, true, true, false, false, false] rfl rfl (one_of HT_.out (by kernel_rfl)) (by decide) (fun K hK => ?_)
    refine value_ (w1 := ?_) (v := ?_) (by rfl) rfl ?_ ?_
    rotate_left 2
    · go_simp
      constructor
      · rfl
      · rfl
    refine hK.out _ _ hHeld (fun hHeld => ?_)
    clear hK K
    refine norm_ (a' := ?_) ?_ ?_
    rotate_left
    · show Act.put _ (some 22) _ = _
      simp only [Act.put, List.setIfInBounds_toArray, List.set_cons_zero, List.set_cons_succ, i64_w, i32_w]
      rfl
    refine pure_ (i := 6) (N := some 23) (v := ?_) (a' := ?_) #[true, true, true, true, true, true, true, false, false] rfl rfl (any_of HT_.out (by kernel_rfl)) (fun _ _ _ h => h) (Or.inl ⟨by rfl, ?_⟩) ?_ ?_
    rotate_left
    · intro w'
      go_simp
      with_reducible rfl
    rotate_left
    · simp only [Act.put, List.setIfInBounds_toArray, List.set_cons_zero, List.set_cons_succ, i64_w, i32_w]
      rfl
    refine one_ (i := 7) (N := some 24) #[true, true, true, true, true, true, true, true, false] rfl rfl (one_of HT_.out (by kernel_rfl)) (by decide) (fun K hK => ?_)
    refine Kd.R_lit_step Kd.string (w0 := w) w.heap.size 9 (by rfl) (N := 24) (by rfl) (xs := [(⟨#[70, 82, 69, 81, 61]⟩ : ByteArray) ++ (rdOf ByteArray.empty fr (wrap64 (a0 - 1)))]) (inner := [.string ((⟨#[70, 82, 69, 81, 61]⟩ : ByteArray) ++ (rdOf ByteArray.empty fr (wrap64 (a0 - 1))))]) (ok := fun _ => True) (okp := fun _ => True) ?hr ?hp (fun _ hk => hk) trivial HB2.out HB2.out.size (by simp) ?_
    case hr => first | (go_simp; done) | (go_simp; rfl)
    case hp => exact Reps.one rfl (Reps.none _ _)
    intro v5 w6 ho hb hg hat
    have HO := Aside0.mk ho
    have HB3 := Aside0.mk hb
    have BK3 := Aside0.mk (blk_grown BK2.out hg (by simp))
    clear ho hb hg hat
    refine hK.out _ _ ((blk_cell BK3.out 0).trans rfl) (fun hHeld => ?_)
    clear hK K
    refine norm_ (a' := ?_) ?_ ?_
    rotate_left
    · show Act.put _ (some 24) _ = _
      simp only [Act.put, List.setIfInBounds_toArray, List.set_cons_zero, List.set_cons_succ, i64_w, i32_w]
      rfl
    refine pure_ (i := 8) (N := some 5) (v := ?_) (a' := ?_) #[true, true, true, true, true, true, true, true, true] rfl rfl (any_of HT_.out (by kernel_rfl)) (fun _ _ _ h => h) (Or.inl ⟨by rfl, ?_⟩) ?_ ?_
    rotate_left
    · intro w'
      go_simp
      with_reducible rfl
    rotate_left
    · simp only [Act.put, List.setIfInBounds_toArray, List.set_cons_zero, List.set_cons_succ, i64_w, i32_w]
      rfl
    refine done_ (done_of HT_.out (by kernel_rfl)) ?_
    have H := HH.out
    unfold rt_go at H
    clear HH hxf p0e p1e p2e P0 P1 FR HB1 HB2 BK1 BK2 hHeld
    have HB := HB3
    have BK := BK3
    clear HB3 BK3
    generalize [(⟨#[70, 82, 69, 81, 61]⟩ : ByteArray) ++ (rdOf ByteArray.empty fr (wrap64 (a0 - 1)))] = o0 at HO H
    generalize w6 = wa at HO HB BK ⊢
    obtain ⟨o1, h1, H⟩ := Option.bind_eq_some_iff.1 H
    have y1 := (blk_cell BK.out 1).trans rfl
    go_upto_if 27 with (fail)
    (try simp only [Act.put, List.setIfInBounds_toArray, List.set_cons_zero, List.set_cons_succ])
    go_cut [5] (fun v5 wc => Aside0 (Kd.R Kd.string 9 wc w.heap.size (fun _ => True) v5 o1) ∧ Aside0 (Below w.heap.size w wc) ∧ Aside0 (wc.heap[gb]? = some (.cells #[Value.int .i64 a0, Value.int .i64 a1, Value.int .i64 a2, Value.bool a3, Value.int .i64 a4, Value.bool a5, Value.slice A6 l6.length c6, Value.slice A7 l7.length c7, Value.slice A8 l8.length c8, Value.slice A9 l9.length c9, Value.slice A10 l10.length c10, Value.slice A11 l11.length c11, Value.slice A12 l12.length c12, Value.slice A13 l13.length c13, Value.slice A14 l14.length c14, Value.int .i64 a15] 25 (0, 0))))
    case first =>
      unfold rt_num at h1
      by_cases d : a1 > 1
      · rw [if_pos d] at h1
        obtain ⟨t, ht, h1⟩ := Option.bind_eq_some_iff.1 h1
        unfold rt_add at h1
        by_cases s1 : (⟨#[73, 78, 84, 69, 82, 86, 65, 76, 61]⟩ : ByteArray).size + t.size ≤ 9223372036854775807
        rotate_left
        · rw [if_neg s1] at h1; cases h1
        rw [if_pos s1] at h1
        by_cases s2 : o0.length < 8796093022208
        rotate_left
        · rw [if_neg s2] at h1; cases h1
        rw [if_pos s2] at h1
        obtain rfl := Option.some.inj h1
        have d0 : decide (1 < a1) = true := decide_eq_true d
        have d1 := eq_true (show 1 < a1 from d)
        have d2 : (a1 ≤ 1) = False := eq_false (by omega)
        clear d
        have s1e : (9223372036854775807 < 9 + t.size) = False := eq_false (Nat.not_lt.2 s1)
        have HT := Aside0.mk ht
        have L2 := Aside0.mk s2
        clear s1 s2 h1 ht H
        (try rw [d0])
        go_wp2_with (first | (go_at_call 24; (with_reducible refine (num_Text.calls _ _ t _ (GP_below HG.out HB.out) HT.out).mono ?_); rintro e w5 ⟨rfl, hb⟩; have HB1 := Aside0.mk (below_then HB.out HB.out.size hb); have BK1 := Aside0.mk (blk_below BK.out hb); have HO1 := Aside0.mk (Kd.R_below HO.out hb); clear hb) | ((with_reducible refine gate_builtin (b := .append) (xs := #[.tmp 28, .tmp 33]) rfl ?_); (first | at_builtin | (refine gate_guard (by rfl) ?_; dsimp only; at_builtin)); refine Kd.R_append Kd.string (w0 := w) w.heap.size rfl (.tmp 28) (.tmp 33) 35 9 (.string ⟨#[]⟩) 16 rfl Tryz.underlying35 info9 rfl (by decide) (by omega) _ o0 ((⟨#[73, 78, 84, 69, 82, 86, 65, 76, 61]⟩ : ByteArray) ++ t) [.string ((⟨#[73, 78, 84, 69, 82, 86, 65, 76, 61]⟩ : ByteArray) ++ t)] (fun _ => True) (fun _ => False) rfl rfl ?aP (fun _ hk => hk.elim) ?aF ?aO ?aB ?aS ?aL ?_; (case aP => exact rfl); (case aB => exact HB1.out); (case aF => exact (fun _ _ => trivial)); (case aO => exact HO1.out); (case aS => exact HB1.out.size); (case aL => have := L2.out; omega); intro v9 w9 ho hb hg hat; have HO2 := Aside0.mk ho; have HB2 := Aside0.mk hb; have BK2 := Aside0.mk (blk_grown BK1.out hg (Kd.R_ne HO1.out BK1.out (by decide))); clear ho hb hg hat))
        go_meet
        case rel => exact ⟨HO2, HB2, BK2⟩
      · rw [if_neg d] at h1
        obtain rfl := Option.some.inj h1
        have d0 : decide (1 < a1) = false := decide_eq_false d
        have d1 := eq_false (show ¬ 1 < a1 from d)
        have d2 : (a1 ≤ 1) = True := eq_true (by omega)
        clear d
        clear H
        (try rw [d0])
        go_wp2
        go_meet
        case rel => exact ⟨HO, HB, BK⟩
    case rest =>
      clear HO HB BK h1 y1
      obtain ⟨HO, HB, BK⟩ := hcut
      obtain ⟨o2, h1, H⟩ := Option.bind_eq_some_iff.1 H
      have y2 := (blk_cell BK.out 2).trans rfl
      go_upto_if 37 with (fail)
      (try simp only [Act.put, List.setIfInBounds_toArray, List.set_cons_zero, List.set_cons_succ])
      go_cut [5] (fun v5 wc => Aside0 (Kd.R Kd.string 9 wc w.heap.size (fun _ => True) v5 o2) ∧ Aside0 (Below w.heap.size w wc) ∧ Aside0 (wc.heap[gb]? = some (.cells #[Value.int .i64 a0, Value.int .i64 a1, Value.int .i64 a2, Value.bool a3, Value.int .i64 a4, Value.bool a5, Value.slice A6 l6.length c6, Value.slice A7 l7.length c7, Value.slice A8 l8.length c8, Value.slice A9 l9.length c9, Value.slice A10 l10.length c10, Value.slice A11 l11.length c11, Value.slice A12 l12.length c12, Value.slice A13 l13.length c13, Value.slice A14 l14.length c14, Value.int .i64 a15] 25 (0, 0))))
      case first =>
        unfold rt_num at h1
        by_cases d : a2 > 0
        · rw [if_pos d] at h1
          obtain ⟨t, ht, h1⟩ := Option.bind_eq_some_iff.1 h1
          unfold rt_add at h1
          by_cases s1 : (⟨#[67, 79, 85, 78, 84, 61]⟩ : ByteArray).size + t.size ≤ 9223372036854775807
          rotate_left
          · rw [if_neg s1] at h1; cases h1
          rw [if_pos s1] at h1
          by_cases s2 : o1.length < 8796093022208
          rotate_left
          · rw [if_neg s2] at h1; cases h1
          rw [if_pos s2] at h1
          obtain rfl := Option.some.inj h1
          have d0 : decide (0 < a2) = true := decide_eq_true d
          have d1 := eq_true (show 0 < a2 from d)
          have d2 : (a2 ≤ 0) = False := eq_false (by omega)
          clear d
          have s1e : (9223372036854775807 < 6 + t.size) = False := eq_false (Nat.not_lt.2 s1)
          have HT := Aside0.mk ht
          have L2 := Aside0.mk s2
          clear s1 s2 h1 ht H
          (try rw [d0])
          go_wp2_with (first | (go_at_call 24; (with_reducible refine (num_Text.calls _ _ t _ (GP_below HG.out HB.out) HT.out).mono ?_); rintro e w5 ⟨rfl, hb⟩; have HB1 := Aside0.mk (below_then HB.out HB.out.size hb); have BK1 := Aside0.mk (blk_below BK.out hb); have HO1 := Aside0.mk (Kd.R_below HO.out hb); clear hb) | ((with_reducible refine gate_builtin (b := .append) (xs := #[.tmp 38, .tmp 43]) rfl ?_); (first | at_builtin | (refine gate_guard (by rfl) ?_; dsimp only; at_builtin)); refine Kd.R_append Kd.string (w0 := w) w.heap.size rfl (.tmp 38) (.tmp 43) 35 9 (.string ⟨#[]⟩) 16 rfl Tryz.underlying35 info9 rfl (by decide) (by omega) _ o1 ((⟨#[67, 79, 85, 78, 84, 61]⟩ : ByteArray) ++ t) [.string ((⟨#[67, 79, 85, 78, 84, 61]⟩ : ByteArray) ++ t)] (fun _ => True) (fun _ => False) rfl rfl ?aP (fun _ hk => hk.elim) ?aF ?aO ?aB ?aS ?aL ?_; (case aP => exact rfl); (case aB => exact HB1.out); (case aF => exact (fun _ _ => trivial)); (case aO => exact HO1.out); (case aS => exact HB1.out.size); (case aL => have := L2.out; omega); intro v9 w9 ho hb hg hat; have HO2 := Aside0.mk ho; have HB2 := Aside0.mk hb; have BK2 := Aside0.mk (blk_grown BK1.out hg (Kd.R_ne HO1.out BK1.out (by decide))); clear ho hb hg hat))
          go_meet
          case rel => exact ⟨HO2, HB2, BK2⟩
        · rw [if_neg d] at h1
          obtain rfl := Option.some.inj h1
          have d0 : decide (0 < a2) = false := decide_eq_false d
          have d1 := eq_false (show ¬ 0 < a2 from d)
          have d2 : (a2 ≤ 0) = True := eq_true (by omega)
          clear d
          clear H
          (try rw [d0])
          go_wp2
          go_meet
          case rel => exact ⟨HO, HB, BK⟩
      case rest =>
        clear HO HB BK h1 y2
        obtain ⟨HO, HB, BK⟩ := hcut
        obtain ⟨o3, h1, H⟩ := Option.bind_eq_some_iff.1 H
        have y3 := (blk_cell BK.out 3).trans rfl
        have y4 := (blk_cell BK.out 4).trans rfl
        have y5 := (blk_cell BK.out 5).trans rfl
        go_upto_if 46 with (fail)
        (try simp only [Act.put, List.setIfInBounds_toArray, List.set_cons_zero, List.set_cons_succ])
        go_cut [5] (fun v5 wc => Aside0 (Kd.R Kd.string 9 wc w.heap.size (fun _ => True) v5 o3) ∧ Aside0 (Below w.heap.size w wc) ∧ Aside0 (wc.heap[gb]? = some (.cells #[Value.int .i64 a0, Value.int .i64 a1, Value.int .i64 a2, Value.bool a3, Value.int .i64 a4, Value.bool a5, Value.slice A6 l6.length c6, Value.slice A7 l7.length c7, Value.slice A8 l8.length c8, Value.slice A9 l9.length c9, Value.slice A10 l10.length c10, Value.slice A11 l11.length c11, Value.slice A12 l12.length c12, Value.slice A13 l13.length c13, Value.slice A14 l14.length c14, Value.int .i64 a15] 25 (0, 0))))
        case first =>
          unfold rt_until at h1
          by_cases d : a3 = true
          · rw [if_pos d] at h1
            obtain ⟨⟨b1, b2⟩, ht, h1⟩ := Option.bind_eq_some_iff.1 h1
            unfold rt_add at h1
            by_cases s1 : (⟨#[85, 78, 84, 73, 76, 61]⟩ : ByteArray).size + b1.size ≤ 9223372036854775807
            rotate_left
            · rw [if_neg s1] at h1; cases h1
            rw [if_pos s1] at h1
            by_cases s2 : o2.length < 8796093022208
            rotate_left
            · rw [if_neg s2] at h1; cases h1
            rw [if_pos s2] at h1
            obtain rfl := Option.some.inj h1
            subst d
            have s1e : (9223372036854775807 < 6 + b1.size) = False := eq_false (Nat.not_lt.2 s1)
            have HT := Aside0.mk ht
            have L2 := Aside0.mk s2
            clear s1 s2 h1 ht H
            (try rw [d0])
            go_wp2_with (first | (go_at_call 25; (with_reducible refine (value_Time.calls k _ _ b1 b2 _ (GP_below HG.out HB.out) HT.out).mono ?_); rintro e w5 ⟨rfl, hb⟩; have HB1 := Aside0.mk (below_then HB.out HB.out.size hb); have BK1 := Aside0.mk (blk_below BK.out hb); have HO1 := Aside0.mk (Kd.R_below HO.out hb); clear hb) | ((with_reducible refine gate_builtin (b := .append) (xs := #[.tmp 55, .tmp 58]) rfl ?_); (first | at_builtin | (refine gate_guard (by rfl) ?_; dsimp only; at_builtin)); refine Kd.R_append Kd.string (w0 := w) w.heap.size rfl (.tmp 55) (.tmp 58) 35 9 (.string ⟨#[]⟩) 16 rfl Tryz.underlying35 info9 rfl (by decide) (by omega) _ o2 ((⟨#[85, 78, 84, 73, 76, 61]⟩ : ByteArray) ++ b1) [.string ((⟨#[85, 78, 84, 73, 76, 61]⟩ : ByteArray) ++ b1)] (fun _ => True) (fun _ => False) rfl rfl ?aP (fun _ hk => hk.elim) ?aF ?aO ?aB ?aS ?aL ?_; (case aP => exact rfl); (case aB => exact HB1.out); (case aF => exact (fun _ _ => trivial)); (case aO => exact HO1.out); (case aS => exact HB1.out.size); (case aL => have := L2.out; omega); intro v9 w9 ho hb hg hat; have HO2 := Aside0.mk ho; have HB2 := Aside0.mk hb; have BK2 := Aside0.mk (blk_grown BK1.out hg (Kd.R_ne HO1.out BK1.out (by decide))); clear ho hb hg hat))
            go_meet
            case rel => exact ⟨HO2, HB2, BK2⟩
          · rw [if_neg d] at h1
            obtain rfl := Option.some.inj h1
            obtain rfl := Bool.eq_false_iff.mpr d
            clear d
            clear H
            (try rw [d0])
            go_wp2
            go_meet
            case rel => exact ⟨HO, HB, BK⟩
        case rest =>
          clear HO HB BK h1 y3 y4 y5
          obtain ⟨HO, HB, BK⟩ := hcut
          obtain ⟨o4, h1, H⟩ := Option.bind_eq_some_iff.1 H
          unfold rt_lists at h1
          obtain ⟨ts, ht, h1⟩ := Option.bind_eq_some_iff.1 h1
          by_cases s1 : o3.length + ts.length ≤ 8796093022208
          rotate_left
          · rw [if_neg s1] at h1; cases h1
          rw [if_pos s1] at h1
          obtain rfl := Option.some.inj h1
          have HT := Aside0.mk ht
          have L2 := Aside0.mk s1
          clear s1 ht h1
          obtain ⟨ws, h2, H⟩ := Option.bind_eq_some_iff.1 H
          have HW := Aside0.mk h2
          have HH := Aside0.mk H
          clear h2 H
          go_wp2_with (first | (go_at_call 27; (with_reducible refine (recur_before.calls gb A13 c13 l13 false A12 c12 l12 false A11 c11 l11 false A10 c10 l10 false _).mono ?_); rintro e w5 ⟨vb, rfl, ho, hb⟩; have HB1 := Aside0.mk (below_then HB.out HB.out.size hb); have BK1 := Aside0.mk (blk_below BK.out hb); have HO1 := Aside0.mk (Kd.R_below HO.out hb); have HL1 := Aside0.mk ho; obtain ⟨Ab, cb, eb⟩ := Kd.R_slice ho; subst eb; clear hb ho) | (go_at_call 26; (refine (recur_texts.calls k Ab cb (beforeL gb A13 c13 l13 false A12 c12 l12 false A11 c11 l11 false A10 c10 l10 false) ts _ (GP_below HG.out HB1.out) (Kd.R_reads' HL1.out).2.2 (Kd.R_reads' HL1.out).2.1 (text_bef a0 a1 a2 a3 a4 a5 A6 c6 l6 A7 c7 l7 A8 c8 l8 A9 c9 l9 A10 c10 l10 A11 c11 l11 A12 c12 l12 A13 c13 l13 A14 c14 l14 a15 false false false false BK1.out (Kd.C_below H6.out HB1.out) Q6.out (Kd.C_below H7.out HB1.out) Q7.out (Kd.C_below H8.out HB1.out) Q8.out (Kd.C_below H9.out HB1.out) Q9.out (Kd.C_below H10.out HB1.out) Q10.out (Kd.C_below H11.out HB1.out) Q11.out (Kd.C_below H12.out HB1.out) Q12.out (Kd.C_below H13.out HB1.out) Q13.out (Kd.C_below H14.out HB1.out) Q14.out) HT.out).mono ?_); rintro e w6 ⟨vt, rfl, ho, hb⟩; have HB3 := Aside0.mk (below_then HB1.out HB1.out.size hb); have BK3 := Aside0.mk (blk_below BK1.out hb); have HO3 := Aside0.mk (Kd.R_below HO1.out hb); have HT3 := Aside0.mk ho; obtain ⟨At, ct, et⟩ := Kd.R_slice ho; subst et; clear hb ho) | ((with_reducible refine gate_builtin (b := .append) (xs := #[.tmp 60, .tmp 62]) rfl ?_); (first | at_builtin | (refine gate_guard (by rfl) ?_; dsimp only; at_builtin)); refine Kd.R_append_rows Kd.string (w0 := w) w.heap.size rfl (.tmp 60) (.tmp 62) 35 9 (.string ⟨#[]⟩) 16 rfl Tryz.underlying35 info9 rfl (by decide) (by omega) _ o3 ts _ _ _ (fun _ => True) (fun _ => False) rfl rfl ?aO ?aR (fun _ _ h => h) (fun _ h => h.elim) ?aF ?aB ?aS ?aL ?_; (case aR => exact (Kd.R_reads' HT3.out).2.2); (case aB => exact HB3.out); (case aF => exact (fun _ _ => trivial)); (case aO => exact HO3.out); (case aS => exact HB3.out.size); (case aL => have := L2.out; omega); intro v9 w9 ho hb hg hat; have HO4 := Aside0.mk ho; have HB4 := Aside0.mk hb; have BK4 := Aside0.mk (blk_grown BK3.out hg (Kd.R_ne HO3.out BK3.out (by decide))); have y9 := (blk_cell BK4.out 9).trans rfl; clear ho hb hg hat))
          clear HB HB1 HB3 BK BK1 BK3 HO HO1 HO3 HL1 HT3 HT L2 y9
          generalize o3 ++ ts = o4 at HO4 HH
          obtain ⟨M, hM⟩ : ∃ M : Nat, M = w9.heap.size := ⟨_, rfl⟩
          have EM := Aside0.mk hM
          have hMw := Aside0.mk (show w.heap.size ≤ M by rw [hM]; exact HB4.out.size)
          clear hM
          go_loopg [8, 67] k (fun kq v8 v67 w' => ∃ (y8 : List ByteArray) (j : Int), v67 = .int .i64 j ∧ Aside0 (rt_words kq l9 y8 j = some ws) ∧ Aside0 (kq ≤ k) ∧ Aside0 (w'.heap[gb]? = some (.cells #[Value.int .i64 a0, Value.int .i64 a1, Value.int .i64 a2, Value.bool a3, Value.int .i64 a4, Value.bool a5, Value.slice A6 l6.length c6, Value.slice A7 l7.length c7, Value.slice A8 l8.length c8, Value.slice A9 l9.length c9, Value.slice A10 l10.length c10, Value.slice A11 l11.length c11, Value.slice A12 l12.length c12, Value.slice A13 l13.length c13, Value.slice A14 l14.length c14, Value.int .i64 a15] 25 (0, 0))) ∧ Aside0 (Kd.R Kd.string 9 w' w.heap.size (fun k => k < M) v9 o4) ∧ Aside0 (Kd.R Kd.string 9 w' M (fun _ => True) v8 y8) ∧ Aside0 (Below w.heap.size w w') ∧ Aside0 (Below M w9 w'))
          case atStart => exact ⟨[], 0, by rfl, HW, ⟨Nat.le_refl _⟩, BK4, ⟨Kd.R_mono (Kd.R_bound HO4.out) (fun k hk => by rw [EM.out]; exact hk.2.2.1)⟩, ⟨Kd.R_nil _ _ _ _ _⟩, HB4, ⟨Below.refl _ _⟩⟩
          case round =>
            clear HW HB4 BK4 HO4
            obtain ⟨y8, j, rfl, HA, HK1, BK, HOut, HWd, HB, HBM⟩ := hrel
            cases gk with
            | zero => exact absurd HA.out (by simp [rt_words])
            | succ k1 =>
              have H := HA.out
              clear HA
              simp only [rt_words] at H
              by_cases c6 : j < (l9.length : Int)
              · rw [if_pos c6] at H
                by_cases c7 : 0 ≤ j
                rotate_left
                · rw [if_neg c7] at H; cases H
                rw [if_pos c7] at H
                have c6b0 : decide (j < (l9.length : Int)) = true := decide_eq_true c6
                have c6b1 := eq_true c6
                have c7b1 := eq_true c7
                obtain ⟨ad9, e9, hx0, hx1⟩ := at_T38 H9.out j c7 c6
                cases e9
                replace hx0 := (HB.out.cell (World.block_lt_of_cell? w _ hx0)).trans hx0
                replace hx1 := (HB.out.cell (World.block_lt_of_cell? w _ hx1)).trans hx1
                generalize rd_T38 l9 j = x at hx0 hx1 H
                obtain ⟨xn, xd⟩ := x
                replace H := Option.bind_eq_some_iff.1 H; obtain ⟨t3, ht3, H⟩ := H
                by_cases c8 : y8.length < 8796093022208
                rotate_left
                · rw [if_neg c8] at H; cases H
                rw [if_pos c8] at H
                unfold rt_day at ht3
                obtain ⟨wd, hwd, ht3⟩ := Option.bind_eq_some_iff.1 ht3
                dsimp only at ht3 hx0 hx1
                by_cases q0 : 0 ≤ xd
                rotate_left
                · rw [if_neg q0] at ht3; cases ht3
                rw [if_pos q0] at ht3
                by_cases q1 : xd < (wd.length : Int)
                rotate_left
                · rw [if_neg q1] at ht3; cases ht3
                rw [if_pos q1] at ht3
                have WD := Aside0.mk hwd
                have Q0_ := Aside0.mk q0
                have Q1_ := Aside0.mk q1
                have q0e := eq_true q0
                have q1e := eq_true q1
                have HT3 := Aside0.mk ht3
                have H2 := Aside0.mk H
                have L3 := Aside0.mk c8
                clear hwd q0 q1 ht3 H c8 c6 c7
                go_wp2
                obtain ⟨gd, hgd⟩ : ∃ gd : Nat, gd = wr.heap.size := ⟨_, rfl⟩
                rw [← hgd]
                have BD := Aside0.mk (show (wr.alloc (.cells #[.int .i64 xn, .int .i64 xd] 38)).heap[gd]? = some (.cells #[.int .i64 xn, .int .i64 xd] 38 (0, 0)) by rw [hgd]; exact blk_new wr _)
                clear hgd hx0 hx1
                replace HB := Aside0.mk (below_drew1 (below_alloc HB.out (.cells #[.int .i64 xn, .int .i64 xd] 38)))
                replace HBM := Aside0.mk (below_drew1 (HBM.out.alloc (by have := EM.out; have := HBM.out.size; omega) (.cells #[.int .i64 xn, .int .i64 xd] 38)))
                replace BK := Aside0.mk (blk_drew (blk_below BK.out (below_alloc (Below.refl _ _) (.cells #[.int .i64 xn, .int .i64 xd] 38))))
                replace HOut := Aside0.mk (Kd.R_drew (Kd.R_alloc HOut.out (.cells #[.int .i64 xn, .int .i64 xd] 38)))
                replace HWd := Aside0.mk (Kd.R_drew (Kd.R_alloc HWd.out (.cells #[.int .i64 xn, .int .i64 xd] 38)))
                replace BD := Aside0.mk (blk_drew BD.out)
                have c1 := (blk_cell BD.out 1).trans rfl
                refine start_ (n := 6) (S := fun w' => w'.cell? ⟨gd, 1, none⟩ = some (.int .i64 xd)) (ds := []) #[false, false, false, false, false, false] (by kernel_rfl) rfl rfl c1 (fun hHeld => ?_); refine with_tabW tt_.tab17 tt_.bits17 (fun HT_ HW_ => ?_)
                generalize (wr.alloc (.cells #[.int .i64 xn, .int .i64 xd] 38)).drew = w3 at HB HBM BK HOut HWd BD hHeld ⊢
                clear c1
                refine pure_ (i := 1) (N := some 72) (v := ?_) (a' := ?_) #[false, true, false, false, false, false] rfl rfl (any_of HT_.out (by kernel_rfl)) (fun _ _ _ h => h) (Or.inl ⟨by rfl, ?_⟩) ?_ ?_
                rotate_left
                · intro w'
                  go_simp
                  with_reducible rfl
                rotate_left
                · simp only [Act.put, List.setIfInBounds_toArray, List.set_cons_zero, List.set_cons_succ, i64_w, i32_w]
                  rfl
                refine take_ (i := 2) (N := some 73) (v := ?_) (a' := ?_) #[false, true, true, false, false, false] rfl rfl (take_ofW HT_.out HW_.out (by kernel_rfl)) (fun _ _ _ h => h) (Or.inl ⟨by rfl, ?_⟩) hHeld ?_ ?_
                rotate_left
                · rintro w' s0
                  go_simp
                  with_reducible rfl
                rotate_left
                · simp only [Act.put, List.setIfInBounds_toArray, List.set_cons_zero, List.set_cons_succ, i64_w, i32_w]
                  rfl
                refine one_ (i := 0) (N := some 71) #[true, true, true, false, false, false] rfl rfl (one_of HT_.out (by kernel_rfl)) (by decide) (fun K hK => ?_)
                refine goes_ Tryz.func28 (by kernel_rfl) rfl #[] (by rfl) rfl rfl (by (try simp only [List.map_toArray, List.map_cons, List.map_nil]); first | done | rfl) ?_
                (with_reducible refine (recur_weekdays.calls wd _ WD.out).mono ?_)
                rintro e w5 ⟨v71, rfl, ho, hb⟩
                refine ⟨_, rfl, ?_⟩
                have HB1 := Aside0.mk (below_then HB.out HB.out.size hb); have HBM1 := Aside0.mk (below_then HBM.out (by have := EM.out; have := HBM.out.size; omega) hb); have BK1 := Aside0.mk (blk_below BK.out hb); have BD1 := Aside0.mk (blk_below BD.out hb); have HOut1 := Aside0.mk (Kd.R_below HOut.out hb); have HWd1 := Aside0.mk (Kd.R_below HWd.out hb)
                obtain ⟨Af, cf, ef⟩ := Kd.R_slice ho
                subst ef
                obtain ⟨adf, ef2, hxf⟩ := Kd.at_string (Kd.R_reads' ho).2.2 xd Q0_.out Q1_.out
                cases ef2
                clear ho hb
                refine hK.out _ _ ((blk_cell BD1.out 1).trans rfl) (fun hHeld => ?_)
                clear hK K
                refine norm_ (a' := ?_) ?_ ?_
                rotate_left
                · show Act.put _ (some 71) _ = _
                  simp only [Act.put, List.setIfInBounds_toArray, List.set_cons_zero, List.set_cons_succ, i64_w, i32_w]
                  rfl
                refine pure_ (i := 3) (N := some 74) (v := ?_) (a' := ?_) #[true, true, true, true, false, false] rfl rfl (any_of HT_.out (by kernel_rfl)) (fun _ _ _ h => h) (Or.inl ⟨by rfl, ?_⟩) ?_ ?_
                rotate_left
                · intro w'
                  go_simp
                  with_reducible rfl
                rotate_left
                · simp only [Act.put, List.setIfInBounds_toArray, List.set_cons_zero, List.set_cons_succ, i64_w, i32_w]
                  rfl
                refine one_ (i := 4) (N := some 75) #[true, true, true, true, true, false] rfl rfl (one_of HT_.out (by kernel_rfl)) (by decide) (fun K hK => ?_)
                refine value_ (w1 := ?_) (v := ?_) (by rfl) rfl ?_ ?_
                rotate_left 2
                · go_simp
                  constructor
                  · rfl
                  · rfl
                refine hK.out _ _ hHeld (fun hHeld => ?_)
                clear hK K
                refine norm_ (a' := ?_) ?_ ?_
                rotate_left
                · show Act.put _ (some 75) _ = _
                  simp only [Act.put, List.setIfInBounds_toArray, List.set_cons_zero, List.set_cons_succ, i64_w, i32_w]
                  rfl
                refine pure_ (i := 5) (N := some 11) (v := ?_) (a' := ?_) #[true, true, true, true, true, true] rfl rfl (any_of HT_.out (by kernel_rfl)) (fun _ _ _ h => h) (Or.inl ⟨by rfl, ?_⟩) ?_ ?_
                rotate_left
                · intro w'
                  go_simp
                  with_reducible rfl
                rotate_left
                · simp only [Act.put, List.setIfInBounds_toArray, List.set_cons_zero, List.set_cons_succ, i64_w, i32_w]
                  rfl
                refine done_ (done_of HT_.out (by kernel_rfl)) ?_
                clear hxf hHeld q0e q1e HB HBM BK BD HOut HWd
                have y0 := (blk_cell BD1.out 0).trans rfl
                go_upto_if 78 with (fail)
                (try simp only [Act.put, List.setIfInBounds_toArray, List.set_cons_zero, List.set_cons_succ])
                go_cut [11] (fun v11 wc => v11 = .string t3 ∧ Aside0 (wc.heap[gb]? = some (.cells #[Value.int .i64 a0, Value.int .i64 a1, Value.int .i64 a2, Value.bool a3, Value.int .i64 a4, Value.bool a5, Value.slice A6 l6.length c6, Value.slice A7 l7.length c7, Value.slice A8 l8.length c8, Value.slice (some ad9) l9.length c9, Value.slice A10 l10.length c10, Value.slice A11 l11.length c11, Value.slice A12 l12.length c12, Value.slice A13 l13.length c13, Value.slice A14 l14.length c14, Value.int .i64 a15] 25 (0, 0))) ∧ Aside0 (Kd.R Kd.string 9 wc w.heap.size (fun k => k < M) v9 o4) ∧ Aside0 (Kd.R Kd.string 9 wc M (fun _ => True) u8 y8) ∧ Aside0 (Below w.heap.size w wc) ∧ Aside0 (Below M w9 wc))
                case first =>
                  have h3 := HT3.out
                  clear HT3
                  by_cases d : xn = 0
                  · rw [if_pos d] at h3
                    obtain rfl := Option.some.inj h3
                    have d0 : (xn != 0) = false := bne_eq_false_iff_eq.mpr d
                    have d1 : (xn == 0) = true := beq_iff_eq.mpr d
                    clear d
                    (try rw [d0])
                    go_wp2
                    go_meet
                    case rel => exact ⟨rfl, BK1, HOut1, HWd1, HB1, HBM1⟩
                  · rw [if_neg d] at h3
                    obtain ⟨t4, ht4, h3⟩ := Option.bind_eq_some_iff.1 h3
                    by_cases s1 : t4.size + (rdOf ByteArray.empty wd xd).size ≤ 9223372036854775807
                    rotate_left
                    · rw [if_neg s1] at h3; cases h3
                    rw [if_pos s1] at h3
                    obtain rfl := Option.some.inj h3
                    have s1e : (9223372036854775807 < t4.size + (rdOf ByteArray.empty wd xd).size) = False := eq_false (Nat.not_lt.2 s1)
                    have HT4 := Aside0.mk ht4
                    have d0 : (xn != 0) = true := bne_iff_ne.mpr d
                    have d1 : (xn == 0) = false := beq_eq_false_iff_ne.mpr d
                    clear d s1 ht4
                    (try rw [d0])
                    go_wp2_with (first | (go_at_call 29; (with_reducible refine (recur_signed.calls _ t4 _ (GP_below HG.out HB1.out) HT4.out).mono ?_); rintro e w6 ⟨rfl, hb⟩; have HB2 := Aside0.mk (below_then HB1.out HB1.out.size hb); have HBM2 := Aside0.mk (below_then HBM1.out (by have := EM.out; have := HBM1.out.size; omega) hb); have BK2 := Aside0.mk (blk_below BK1.out hb); have BD2 := Aside0.mk (blk_below BD1.out hb); have HOut2 := Aside0.mk (Kd.R_below HOut1.out hb); have HWd2 := Aside0.mk (Kd.R_below HWd1.out hb); clear hb))
                    go_meet
                    case rel => exact ⟨rfl, BK2, HOut2, HWd2, HB2, HBM2⟩
                case rest =>
                  clear HB1 HBM1 BK1 BD1 HOut1 HWd1 y0
                  obtain ⟨rfl, BK, HOut, HWd, HB, HBM⟩ := hcut
                  go_wp2_with (first | ((with_reducible refine gate_builtin (b := .append) (xs := #[.tmp 84, .tmp 86]) rfl ?_); (first | at_builtin | (refine gate_guard (by rfl) ?_; dsimp only; at_builtin)); refine Kd.R_append Kd.string (w0 := w9) M rfl (.tmp 84) (.tmp 86) 35 9 (.string ⟨#[]⟩) 16 rfl Tryz.underlying35 info9 rfl (by decide) (by omega) _ y8 t3 [.string t3] (fun _ => True) (fun _ => False) rfl rfl ?aP (fun _ hk => hk.elim) ?aF ?aO ?aB ?aS ?aL ?_; (case aP => exact rfl); (case aB => exact HBM.out); (case aF => exact (fun _ _ => trivial)); (case aO => exact HWd.out); (case aS => exact (by have := EM.out; have := HBM.out.size; omega)); (case aL => have := L3.out; omega); intro v10 w10 ho hb hg hat; have HWd5 := Aside0.mk ho; have HBM5 := Aside0.mk hb; have HOut5 := Aside0.mk (grown_ok HOut.out HWd.out hg); have BK5 := Aside0.mk (blk_grown BK.out hg (Kd.R_ne HWd.out BK.out (by decide))); have HB5 := Aside0.mk (Below.grown HB.out hg HB.out.size (fun kk hkk => Nat.le_trans hMw.out (own_base (Kd.R_own HWd.out).choose_spec kk hkk))); clear ho hb hg hat))
                  go_roundg k1
                  case measure => omega
                  case rel => exact ⟨y8 ++ [t3], wrap64 (j + 1), by rfl, H2, ⟨by have := HK1.out; omega⟩, BK5, HOut5, HWd5, HB5, HBM5⟩
              · rw [if_neg c6] at H
                have c6b0 : decide (j < (l9.length : Int)) = false := decide_eq_false c6
                obtain rfl := Option.some.inj H
                clear H c6
                have HO := Aside0.mk (Kd.R_mono HOut.out (fun _ _ => trivial))
                clear HOut HBM
                obtain ⟨Aw, cw, ew⟩ := Kd.R_slice HWd.out
                subst ew
                replace HH := HH.out
                have H := HH
                clear HH
                obtain ⟨o5, h1, H⟩ := Option.bind_eq_some_iff.1 H
                go_upto_if 91 with (fail)
                (try simp only [Act.put, List.setIfInBounds_toArray, List.set_cons_zero, List.set_cons_succ])
                go_cut [5] (fun v5 wc => Aside0 (Kd.R Kd.string 9 wc w.heap.size (fun _ => True) v5 o5) ∧ Aside0 (Below w.heap.size w wc) ∧ Aside0 (wc.heap[gb]? = some (.cells #[Value.int .i64 a0, Value.int .i64 a1, Value.int .i64 a2, Value.bool a3, Value.int .i64 a4, Value.bool a5, Value.slice A6 l6.length c6, Value.slice A7 l7.length c7, Value.slice A8 l8.length c8, Value.slice A9 l9.length c9, Value.slice A10 l10.length c10, Value.slice A11 l11.length c11, Value.slice A12 l12.length c12, Value.slice A13 l13.length c13, Value.slice A14 l14.length c14, Value.int .i64 a15] 25 (0, 0))))
                case first =>
                  unfold rt_byday at h1
                  by_cases d : (y8.length : Int) > 0
                  · rw [if_pos d] at h1
                    obtain ⟨t, ht, h1⟩ := Option.bind_eq_some_iff.1 h1
                    unfold rt_add at h1
                    by_cases s1 : (⟨#[66, 89, 68, 65, 89, 61]⟩ : ByteArray).size + t.size ≤ 9223372036854775807
                    rotate_left
                    · rw [if_neg s1] at h1; cases h1
                    rw [if_pos s1] at h1
                    by_cases s2 : o4.length < 8796093022208
                    rotate_left
                    · rw [if_neg s2] at h1; cases h1
                    rw [if_pos s2] at h1
                    obtain rfl := Option.some.inj h1
                    have d0 : decide (0 < (y8.length : Int)) = true := decide_eq_true d
                    have d3 : decide (0 < y8.length) = true := decide_eq_true (by omega)
                    have d1 := eq_true (show 0 < y8.length by omega)
                    clear d
                    (try rw [d3])
                    have s1e : (9223372036854775807 < 6 + t.size) = False := eq_false (Nat.not_lt.2 s1)
                    have HT := Aside0.mk ht
                    have L2 := Aside0.mk s2
                    clear s1 s2 h1 ht H
                    (try rw [d0])
                    go_wp2_with (first | (go_at_call 30; (with_reducible refine (strings_Join.calls Aw cw y8 _ t _ (Kd.R_reads' HWd.out).2.2 (Kd.R_reads' HWd.out).2.1 HT.out).mono ?_); rintro e w5 ⟨rfl, hb⟩; have HB1 := Aside0.mk (below_then HB.out HB.out.size hb); have BK1 := Aside0.mk (blk_below BK.out hb); have HO1 := Aside0.mk (Kd.R_below HO.out hb); clear hb) | ((with_reducible refine gate_builtin (b := .append) (xs := #[.tmp 92, .tmp 96]) rfl ?_); (first | at_builtin | (refine gate_guard (by rfl) ?_; dsimp only; at_builtin)); refine Kd.R_append Kd.string (w0 := w) w.heap.size rfl (.tmp 92) (.tmp 96) 35 9 (.string ⟨#[]⟩) 16 rfl Tryz.underlying35 info9 rfl (by decide) (by omega) _ o4 ((⟨#[66, 89, 68, 65, 89, 61]⟩ : ByteArray) ++ t) [.string ((⟨#[66, 89, 68, 65, 89, 61]⟩ : ByteArray) ++ t)] (fun _ => True) (fun _ => False) rfl rfl ?aP (fun _ hk => hk.elim) ?aF ?aO ?aB ?aS ?aL ?_; (case aP => exact rfl); (case aB => exact HB1.out); (case aF => exact (fun _ _ => trivial)); (case aO => exact HO1.out); (case aS => exact HB1.out.size); (case aL => have := L2.out; omega); intro v9 w9 ho hb hg hat; have HO2 := Aside0.mk ho; have HB2 := Aside0.mk hb; have BK2 := Aside0.mk (blk_grown BK1.out hg (Kd.R_ne HO1.out BK1.out (by decide))); clear ho hb hg hat))
                    go_meet
                    case rel => exact ⟨HO2, HB2, BK2⟩
                  · rw [if_neg d] at h1
                    obtain rfl := Option.some.inj h1
                    have d0 : decide (0 < (y8.length : Int)) = false := decide_eq_false d
                    have d3 : decide (0 < y8.length) = false := decide_eq_false (by omega)
                    have d1 := eq_false (show ¬ 0 < y8.length by omega)
                    clear d
                    (try rw [d3])
                    clear H
                    (try rw [d0])
                    go_wp2
                    go_meet
                    case rel => exact ⟨HO, HB, BK⟩
                case rest =>
                  clear HO HB BK h1
                  obtain ⟨HO, HB, BK⟩ := hcut
                  obtain ⟨o6, h1, H⟩ := Option.bind_eq_some_iff.1 H
                  unfold rt_lists at h1
                  obtain ⟨ts, ht, h1⟩ := Option.bind_eq_some_iff.1 h1
                  by_cases s1 : o5.length + ts.length ≤ 8796093022208
                  rotate_left
                  · rw [if_neg s1] at h1; cases h1
                  rw [if_pos s1] at h1
                  obtain rfl := Option.some.inj h1
                  have HT := Aside0.mk ht
                  have L2 := Aside0.mk s1
                  clear s1 ht h1
                  go_upto_if 104 with (first | (go_at_call 31; (with_reducible refine (recur_behind.calls gb A8 c8 l8 false A7 c7 l7 false A6 c6 l6 false A14 c14 l14 false _).mono ?_); rintro e w5 ⟨vb, rfl, ho, hb⟩; have HB1 := Aside0.mk (below_then HB.out HB.out.size hb); have BK1 := Aside0.mk (blk_below BK.out hb); have HO1 := Aside0.mk (Kd.R_below HO.out hb); have HL1 := Aside0.mk ho; obtain ⟨Ab, cb, eb⟩ := Kd.R_slice ho; subst eb; clear hb ho) | (go_at_call 26; (refine (recur_texts.calls k Ab cb (behindL gb A8 c8 l8 false A7 c7 l7 false A6 c6 l6 false A14 c14 l14 false) ts _ (GP_below HG.out HB1.out) (Kd.R_reads' HL1.out).2.2 (Kd.R_reads' HL1.out).2.1 (text_beh a0 a1 a2 a3 a4 a5 A6 c6 l6 A7 c7 l7 A8 c8 l8 A9 c9 l9 A10 c10 l10 A11 c11 l11 A12 c12 l12 A13 c13 l13 A14 c14 l14 a15 false false false false BK1.out (Kd.C_below H6.out HB1.out) Q6.out (Kd.C_below H7.out HB1.out) Q7.out (Kd.C_below H8.out HB1.out) Q8.out (Kd.C_below H9.out HB1.out) Q9.out (Kd.C_below H10.out HB1.out) Q10.out (Kd.C_below H11.out HB1.out) Q11.out (Kd.C_below H12.out HB1.out) Q12.out (Kd.C_below H13.out HB1.out) Q13.out (Kd.C_below H14.out HB1.out) Q14.out) HT.out).mono ?_); rintro e w6 ⟨vt, rfl, ho, hb⟩; have HB3 := Aside0.mk (below_then HB1.out HB1.out.size hb); have BK3 := Aside0.mk (blk_below BK1.out hb); have HO3 := Aside0.mk (Kd.R_below HO1.out hb); have HT3 := Aside0.mk ho; obtain ⟨At, ct, et⟩ := Kd.R_slice ho; subst et; clear hb ho) | ((with_reducible refine gate_builtin (b := .append) (xs := #[.tmp 98, .tmp 100]) rfl ?_); (first | at_builtin | (refine gate_guard (by rfl) ?_; dsimp only; at_builtin)); refine Kd.R_append_rows Kd.string (w0 := w) w.heap.size rfl (.tmp 98) (.tmp 100) 35 9 (.string ⟨#[]⟩) 16 rfl Tryz.underlying35 info9 rfl (by decide) (by omega) _ o5 ts _ _ _ (fun _ => True) (fun _ => False) rfl rfl ?aO ?aR (fun _ _ h => h) (fun _ h => h.elim) ?aF ?aB ?aS ?aL ?_; (case aR => exact (Kd.R_reads' HT3.out).2.2); (case aB => exact HB3.out); (case aF => exact (fun _ _ => trivial)); (case aO => exact HO3.out); (case aS => exact HB3.out.size); (case aL => have := L2.out; omega); intro v9 w9 ho hb hg hat; have HO4 := Aside0.mk ho; have HB4 := Aside0.mk hb; have BK4 := Aside0.mk (blk_grown BK3.out hg (Kd.R_ne HO3.out BK3.out (by decide))); have y15 := (blk_cell BK4.out 15).trans rfl; clear ho hb hg hat))
                  clear HB HB1 HB3 BK BK1 BK3 HO HO1 HO3 HL1 HT3 HT L2
                  generalize o5 ++ ts = o6 at HO4 H
                  have HB := HB4
                  have BK := BK4
                  have HO := HO4
                  clear HB4 BK4 HO4
                  obtain ⟨o7, h1, H⟩ := Option.bind_eq_some_iff.1 H
                  obtain ⟨sx, hsx, H⟩ := Option.bind_eq_some_iff.1 H
                  simp only [Option.some.injEq, Prod.mk.injEq] at H
                  obtain ⟨rfl, rfl⟩ := H
                  have HS := Aside0.mk hsx
                  clear hsx
                  (try simp only [Act.put, List.setIfInBounds_toArray, List.set_cons_zero, List.set_cons_succ])
                  go_cut [5] (fun v5 wc => Aside0 (Kd.R Kd.string 9 wc w.heap.size (fun _ => True) v5 o7) ∧ Aside0 (Below w.heap.size w wc) ∧ Aside0 (wc.heap[gb]? = some (.cells #[Value.int .i64 a0, Value.int .i64 a1, Value.int .i64 a2, Value.bool a3, Value.int .i64 a4, Value.bool a5, Value.slice A6 l6.length c6, Value.slice A7 l7.length c7, Value.slice A8 l8.length c8, Value.slice A9 l9.length c9, Value.slice A10 l10.length c10, Value.slice A11 l11.length c11, Value.slice A12 l12.length c12, Value.slice A13 l13.length c13, Value.slice A14 l14.length c14, Value.int .i64 a15] 25 (0, 0))))
                  case first =>
                    unfold rt_wkst at h1
                    by_cases d : a15 = 1
                    · rw [if_pos d] at h1
                      obtain rfl := Option.some.inj h1
                      have d0 : (a15 != 1) = false := bne_eq_false_iff_eq.mpr d
                      clear d
                      (try rw [d0])
                      go_wp2
                      go_meet
                      case rel => exact ⟨HO, HB, BK⟩
                    · rw [if_neg d] at h1
                      have d0 : (a15 != 1) = true := bne_iff_ne.mpr d
                      obtain ⟨wd, hwd, h1⟩ := Option.bind_eq_some_iff.1 h1
                      by_cases q0 : 0 ≤ a15
                      rotate_left
                      · rw [if_neg q0] at h1; cases h1
                      rw [if_pos q0] at h1
                      by_cases q1 : a15 < (wd.length : Int)
                      rotate_left
                      · rw [if_neg q1] at h1; cases h1
                      rw [if_pos q1] at h1
                      unfold rt_add at h1
                      by_cases s1 : (⟨#[87, 75, 83, 84, 61]⟩ : ByteArray).size + (rdOf ByteArray.empty wd a15).size ≤ 9223372036854775807
                      rotate_left
                      · rw [if_neg s1] at h1; cases h1
                      rw [if_pos s1] at h1
                      by_cases s2 : o6.length < 8796093022208
                      rotate_left
                      · rw [if_neg s2] at h1; cases h1
                      rw [if_pos s2] at h1
                      obtain rfl := Option.some.inj h1
                      have WD := Aside0.mk hwd
                      have Q0_ := Aside0.mk q0
                      have Q1_ := Aside0.mk q1
                      have q0e := eq_true q0
                      have q1e := eq_true q1
                      have s1e : (9223372036854775807 < 5 + (rdOf ByteArray.empty wd a15).size) = False := eq_false (Nat.not_lt.2 s1)
                      have L2 := Aside0.mk s2
                      clear d hwd q0 q1 s1 s2 h1 y15
                      (try rw [d0])
                      go_wp2
                      replace HB := Aside0.mk (below_drew1 HB.out)
                      replace BK := Aside0.mk (blk_drew BK.out)
                      replace HO := Aside0.mk (Kd.R_drew HO.out)
                      have c15 := (blk_cell BK.out 15).trans rfl
                      refine start_ (n := 10) (S := fun w' => w'.cell? ⟨gb, 15, none⟩ = some (.int .i64 a15)) (ds := []) #[false, false, false, false, false, false, false, false, false, false] (by kernel_rfl) rfl rfl c15 (fun hHeld => ?_); refine with_tabW tt_.tab26 tt_.bits26 (fun HT_ HW_ => ?_)
                      generalize w9.drew = w3 at HB BK HO hHeld ⊢
                      clear c15
                      refine pure_ (i := 0) (N := some 105) (v := ?_) (a' := ?_) #[true, false, false, false, false, false, false, false, false, false] rfl rfl (any_of HT_.out (by kernel_rfl)) (fun _ _ _ h => h) (Or.inl ⟨by rfl, ?_⟩) ?_ ?_
                      rotate_left
                      · intro w'
                        go_simp
                        with_reducible rfl
                      rotate_left
                      · simp only [Act.put, List.setIfInBounds_toArray, List.set_cons_zero, List.set_cons_succ, i64_w, i32_w]
                        rfl
                      refine pure_ (i := 2) (N := some 107) (v := ?_) (a' := ?_) #[true, false, true, false, false, false, false, false, false, false] rfl rfl (any_of HT_.out (by kernel_rfl)) (fun _ _ _ h => h) (Or.inl ⟨by rfl, ?_⟩) ?_ ?_
                      rotate_left
                      · intro w'
                        go_simp
                        with_reducible rfl
                      rotate_left
                      · simp only [Act.put, List.setIfInBounds_toArray, List.set_cons_zero, List.set_cons_succ, i64_w, i32_w]
                        rfl
                      refine take_ (i := 3) (N := some 108) (v := ?_) (a' := ?_) #[true, false, true, true, false, false, false, false, false, false] rfl rfl (take_ofW HT_.out HW_.out (by kernel_rfl)) (fun _ _ _ h => h) (Or.inl ⟨by rfl, ?_⟩) hHeld ?_ ?_
                      rotate_left
                      · rintro w' s0
                        go_simp
                        with_reducible rfl
                      rotate_left
                      · simp only [Act.put, List.setIfInBounds_toArray, List.set_cons_zero, List.set_cons_succ, i64_w, i32_w]
                        rfl
                      refine one_ (i := 1) (N := some 106) #[true, true, true, true, false, false, false, false, false, false] rfl rfl (one_of HT_.out (by kernel_rfl)) (by decide) (fun K hK => ?_)
                      refine goes_ Tryz.func28 (by kernel_rfl) rfl #[] (by rfl) rfl rfl (by (try simp only [List.map_toArray, List.map_cons, List.map_nil]); first | done | rfl) ?_
                      (with_reducible refine (recur_weekdays.calls wd _ WD.out).mono ?_)
                      rintro e w5 ⟨v71, rfl, ho, hb⟩
                      refine ⟨_, rfl, ?_⟩
                      have HB1 := Aside0.mk (below_then HB.out HB.out.size hb); have BK1 := Aside0.mk (blk_below BK.out hb); have HO1 := Aside0.mk (Kd.R_below HO.out hb)
                      obtain ⟨Af, cf, ef⟩ := Kd.R_slice ho
                      subst ef
                      obtain ⟨adf, ef2, hxf⟩ := Kd.at_string (Kd.R_reads' ho).2.2 a15 Q0_.out Q1_.out
                      cases ef2
                      clear ho hb
                      refine hK.out _ _ ((blk_cell BK1.out 15).trans rfl) (fun hHeld => ?_)
                      clear hK K
                      refine norm_ (a' := ?_) ?_ ?_
                      rotate_left
                      · show Act.put _ (some 106) _ = _
                        simp only [Act.put, List.setIfInBounds_toArray, List.set_cons_zero, List.set_cons_succ, i64_w, i32_w]
                        rfl
                      refine pure_ (i := 4) (N := some 109) (v := ?_) (a' := ?_) #[true, true, true, true, true, false, false, false, false, false] rfl rfl (any_of HT_.out (by kernel_rfl)) (fun _ _ _ h => h) (Or.inl ⟨by rfl, ?_⟩) ?_ ?_
                      rotate_left
                      · intro w'
                        go_simp
                        with_reducible rfl
                      rotate_left
                      · simp only [Act.put, List.setIfInBounds_toArray, List.set_cons_zero, List.set_cons_succ, i64_w, i32_w]
                        rfl
                      refine one_ (i := 5) (N := some 110) #[true, true, true, true, true, true, false, false, false, false] rfl rfl (one_of HT_.out (by kernel_rfl)) (by decide) (fun K hK => ?_)
                      refine value_ (w1 := ?_) (v := ?_) (by rfl) rfl ?_ ?_
                      rotate_left 2
                      · go_simp
                        constructor
                        · rfl
                        · rfl
                      refine hK.out _ _ hHeld (fun hHeld => ?_)
                      clear hK K
                      refine norm_ (a' := ?_) ?_ ?_
                      rotate_left
                      · show Act.put _ (some 110) _ = _
                        simp only [Act.put, List.setIfInBounds_toArray, List.set_cons_zero, List.set_cons_succ, i64_w, i32_w]
                        rfl
                      refine pure_ (i := 6) (N := some 111) (v := ?_) (a' := ?_) #[true, true, true, true, true, true, true, false, false, false] rfl rfl (any_of HT_.out (by kernel_rfl)) (fun _ _ _ h => h) (Or.inl ⟨by rfl, ?_⟩) ?_ ?_
                      rotate_left
                      · intro w'
                        go_simp
                        with_reducible rfl
                      rotate_left
                      · simp only [Act.put, List.setIfInBounds_toArray, List.set_cons_zero, List.set_cons_succ, i64_w, i32_w]
                        rfl
                      refine one_ (i := 7) (N := some 112) #[true, true, true, true, true, true, true, true, false, false] rfl rfl (one_of HT_.out (by kernel_rfl)) (by decide) (fun K hK => ?_)
                      refine value_ (w1 := ?_) (v := ?_) (by rfl) rfl ?_ ?_
                      rotate_left 2
                      · go_simp
                        constructor
                        · rfl
                        · rfl
                      refine hK.out _ _ ((World.cell?_alloc_past _ _ _ (blk_lt BK1.out)).trans hHeld) (fun hHeld => ?_)
                      clear hK K
                      refine norm_ (a' := ?_) ?_ ?_
                      rotate_left
                      · show Act.put _ (some 112) _ = _
                        simp only [Act.put, List.setIfInBounds_toArray, List.set_cons_zero, List.set_cons_succ, i64_w, i32_w]
                        rfl
                      refine one_ (i := 8) (N := some 113) #[true, true, true, true, true, true, true, true, true, false] rfl rfl (one_of HT_.out (by kernel_rfl)) (by decide) (fun K hK => ?_)
                      refine Kd.R_append_step Kd.string (w0 := w) w.heap.size (by rfl) (.tmp 105) (.tmp 112) 35 9 (.string ⟨#[]⟩) 16 rfl Tryz.underlying35 info9 rfl (by decide) (by omega) _ o6 ((⟨#[87, 75, 83, 84, 61]⟩ : ByteArray) ++ rdOf ByteArray.empty wd a15) [.string ((⟨#[87, 75, 83, 84, 61]⟩ : ByteArray) ++ rdOf ByteArray.empty wd a15)] (fun _ => True) (fun _ => False) rfl rfl rfl (fun _ hk => hk.elim) (fun _ _ => trivial) HO1.out HB1.out HB1.out.size (by have := L2.out; omega) ?_
                      intro v1 w6 ho hb hg hat
                      have HB2 := Aside0.mk hb
                      have HO2 := Aside0.mk ho
                      have BK2 := Aside0.mk (blk_grown BK1.out hg (Kd.R_ne HO1.out BK1.out (by decide)))
                      clear ho hb hg hat
                      refine hK.out _ _ ((blk_cell BK2.out 15).trans rfl) (fun hHeld => ?_)
                      clear hK K
                      refine norm_ (a' := ?_) ?_ ?_
                      rotate_left
                      · show Act.put _ (some 113) _ = _
                        simp only [Act.put, List.setIfInBounds_toArray, List.set_cons_zero, List.set_cons_succ, i64_w, i32_w]
                        rfl
                      refine pure_ (i := 9) (N := some 5) (v := ?_) (a' := ?_) #[true, true, true, true, true, true, true, true, true, true] rfl rfl (any_of HT_.out (by kernel_rfl)) (fun _ _ _ h => h) (Or.inl ⟨by rfl, ?_⟩) ?_ ?_
                      rotate_left
                      · intro w'
                        go_simp
                        with_reducible rfl
                      rotate_left
                      · simp only [Act.put, List.setIfInBounds_toArray, List.set_cons_zero, List.set_cons_succ, i64_w, i32_w]
                        rfl
                      refine done_ (done_of HT_.out (by kernel_rfl)) ?_
                      go_wp2
                      go_meet
                      case rel => exact ⟨HO2, HB2, BK2⟩
                  case rest =>
                    clear HO HB BK h1 y15
                    obtain ⟨HO, HB, BK⟩ := hcut
                    obtain ⟨Az, cz, ez⟩ := Kd.R_slice HO.out
                    subst ez
                    go_wp2_with (first | (go_at_call 30; (with_reducible refine (strings_Join.calls Az cz o7 _ _ _ (Kd.R_reads' HO.out).2.2 (Kd.R_reads' HO.out).2.1 HS.out).mono ?_); rintro e w5 ⟨rfl, hb⟩; have HB1 := Aside0.mk (below_then HB.out HB.out.size hb); clear hb))
                    go_ret2
                    exact ⟨by rfl, HB1.out⟩
end Go.Proofs.YtjanombhdnoemaaGreatDoor.PRec
