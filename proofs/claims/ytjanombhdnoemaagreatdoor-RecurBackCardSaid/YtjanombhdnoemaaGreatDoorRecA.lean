-- A text of the kit's tools for this claim, its remarks left out.
import Derived.Test.YtjanombhdnoemaaGreatDoorPRecx0
import Derived.Test.YtjanombhdnoemaaGreatDoorRecM
namespace Go.Proofs.YtjanombhdnoemaaGreatDoor.PRec
open Go.RowKit Go.Proofs.YtjanombhdnoemaaGreatDoorW.PrintWords Go.Proofs.YtjanombhdnoemaaGreatDoorW.PrintLast Go.Proofs.YtjanombhdnoemaaGreatDoorW.PrintMore Go.Proofs.YtjanombhdnoemaaGreatDoor.Base
attribute [local go_sem] max2_int min2_int max_two min_two max_three min_three max_four min_four
set_option linter.unusedVariables false
set_option linter.unusedSimpArgs false
theorem recur_twice_int.keyed : Maps.Keyed Tryz.prog 3 := Maps.int_keyed Tryz.underlying3
theorem recur_twice_int.zero (w : World) : (zeroValue 4).run Tryz.prog w = .ok (.bool false) w := by kernel_rfl
def recur_twice_int.val : Int → Value := fun x : Int => Value.int .i64 x
theorem recur_twice_int.has_key (x : Int) (h : -9223372036854775808 ≤ x ∧ x ≤ 9223372036854775807) : ∃ l, Go.keyOf Tryz.prog 3 (recur_twice_int.val x) = some l := ⟨_, Maps.keyOf_int_mk Tryz.underlying3 (by simp [Lit.wf, IntKind.min, IntKind.max, IntKind.signed, IntKind.bits]; omega)⟩
theorem recur_twice_int.inj {x y : Int} (h : recur_twice_int.val x = recur_twice_int.val y) : x = y := by injection h
def recur_twice_int.l0 : Nat → List Int → List Int → Int → Option (Bool)
 | 0, _, _, _ => none
 | k + 1, x0, x1, x2 => if x2 < (x0.length : Int) then (if 0 ≤ x2 then (if -9223372036854775808 ≤ (rd x0 x2) ∧ (rd x0 x2) ≤ 9223372036854775807 then (if RecM.hasB x1 (rd x0 x2) = true then (some true) else (if x1.length < 1000000000 then (recur_twice_int.l0 k x0 (x1 ++ [(rd x0 x2)]) (wrap64 (x2 + 1))) else (none))) else (none)) else (none)) else (some false)
def recur_twice_int.f (k : Nat) (l0 : List Int) : Option (Bool) := recur_twice_int.l0 k l0 ([] : List Int) 0
theorem recur_twice_int.mono_l : ∀ k, (∀ y0 y1 y2, LeO (recur_twice_int.l0 k y0 y1 y2) (recur_twice_int.l0 (k + 1) y0 y1 y2))
  | 0 => fun _ _ _ r h => by simp [recur_twice_int.l0] at h
  | k + 1 => by
    have ih0 := recur_twice_int.mono_l k
    intro y0 y1 y2
    unfold recur_twice_int.l0
    repeat' first | (with_reducible first | exact ih0 _ _ _ | exact LeO.refl _ | exact LeO.none _ | refine LeO.ite ?_ ?_ | refine LeO.bind ?_ (fun _ => ?_))
theorem recur_twice_int.mono : ∀ a0 k, LeO (recur_twice_int.f k a0) (recur_twice_int.f (k + 1) a0) := by
  intro a0 k
  exact recur_twice_int.mono_l k _ _ _
set_option maxHeartbeats 8000000 in
set_option maxRecDepth 100000 in
theorem recur_twice_int.calls (k : Nat) (A0 : Option Addr) (c0 : Nat) (l0 : List Int) (r : Bool) (w : World) (hr0 : Kd.C (Kd.int .i64) w A0 l0.length l0) (hc0 : l0.length ≤ c0) (h : recur_twice_int.f k l0 = some r) :
  Calls Tryz.prog 83 #[.slice A0 l0.length c0] w fun e w' => e = .returned (.bool r) ∧ Below w.heap.size w w' := by
  have HR0 := Aside0.mk hr0
  have HC0 := Aside0.mk hc0
  have hmm := @run_makeMap Tryz.prog
  have hu38 := Tryz.underlying38
  clear hr0 hc0
  have H' : Aside0 (recur_twice_int.l0 k l0 ([] : List Int) 0 = some r) := ⟨h⟩
  clear h
  go_enter Tryz.func83, Tryz.ntmps83
  go_wp2
  go_loopg [9] k (fun kq v9 w' => ∃ (i : Int) (met : List Int), v9 = .int .i64 i ∧ Aside0 (recur_twice_int.l0 kq l0 met i = some r) ∧ Aside0 (kq ≤ k) ∧ Aside0 (RecM.SetOf Tryz.prog 3 w' w.heap.size (met.map recur_twice_int.val)) ∧ Aside0 (Below w.heap.size w w'))
  case atStart => exact ⟨0, [], by rfl, H', ⟨Nat.le_refl _⟩, ⟨RecM.SetOf.new w⟩, ⟨below_alloc (Below.refl _ _) _⟩⟩
  case round =>
    clear H'
    obtain ⟨i, met, rfl, HA, HK1, HS, HB⟩ := hrel
    cases gk with
    | zero => exact absurd HA.out (by simp [recur_twice_int.l0])
    | succ k1 =>
      have H := HA.out
      clear HA
      simp only [recur_twice_int.l0] at H
      by_cases c4 : i < (l0.length : Int)
      rotate_left
      · rw [if_neg c4] at H
        have c4b0 : decide (i < (l0.length : Int)) = false := decide_eq_false c4
        clear c4
        obtain rfl := Option.some.inj H
        go_wp2
        go_ret
        exact ⟨by rfl, HB.out⟩
      · rw [if_pos c4] at H
        have c4b0 : decide (i < (l0.length : Int)) = true := decide_eq_true c4
        by_cases c5 : 0 ≤ i
        rotate_left
        · rw [if_neg c5] at H; cases H
        · rw [if_pos c5] at H
          have c5b0 : decide (0 ≤ i) = true := decide_eq_true c5
          have c5b1 : (0 ≤ i) = True := eq_true c5
          have c4b1 : (i < (l0.length : Int)) = True := eq_true c4
          obtain ⟨ad, e0, hx⟩ := Kd.at_int HR0.out i c5 c4
          cases e0
          replace hx := (HB.out.cell (World.block_lt_of_cell? w _ hx)).trans hx
          by_cases c6 : -9223372036854775808 ≤ (rd l0 i) ∧ (rd l0 i) ≤ 9223372036854775807
          rotate_left
          · rw [if_neg c6] at H; cases H
          · rw [if_pos c6] at H
            obtain ⟨kl, hkl⟩ := recur_twice_int.has_key (rd l0 i) c6
            have KL := Aside0.mk hkl
            clear c6 hkl c5 c4
            by_cases c7 : RecM.hasB met (rd l0 i) = true
            · rw [if_pos c7] at H
              have CM : Aside0 ((true = true) ↔ recur_twice_int.val (rd l0 i) ∈ met.map recur_twice_int.val) := ⟨⟨fun _ => List.mem_map.2 ⟨_, RecM.hasB_iff.1 c7, rfl⟩, fun _ => rfl⟩⟩
              clear c7
              obtain rfl := Option.some.inj H
              go_wp2_with (first | (at_lookup; refine RecM.wpList_lookup_set rfl _ _ 142 rfl 3 4 recur_twice_int.keyed Tryz.underlying142 (recur_twice_int.zero _) w.heap.size (met.map recur_twice_int.val) rfl HS.out _ _ (by rfl) KL.out true CM.out ?_))
              go_ret
              exact ⟨by rfl, HB.out⟩
            · rw [if_neg c7] at H
              by_cases c8 : met.length < 1000000000
              rotate_left
              · rw [if_neg c8] at H; cases H
              · rw [if_pos c8] at H
                have hnm : recur_twice_int.val (rd l0 i) ∉ met.map recur_twice_int.val := fun hm => c7 (by
                  obtain ⟨y, hy, e⟩ := List.mem_map.1 hm
                  have : y = (rd l0 i) := recur_twice_int.inj e
                  rw [← this]
                  exact RecM.hasB_iff.2 hy)
                have NM := Aside0.mk hnm
                have CM : Aside0 ((false = true) ↔ recur_twice_int.val (rd l0 i) ∈ met.map recur_twice_int.val) := ⟨⟨fun h => (by cases h), fun h => absurd h hnm⟩⟩
                have L8 : Aside0 ((met.map recur_twice_int.val).length < maxLen) := ⟨by rw [List.length_map]; unfold maxLen; omega⟩
                have H' := Aside0.mk H
                clear c7 c8 hnm H
                go_wp2_with (first | (at_lookup; refine RecM.wpList_lookup_set rfl _ _ 142 rfl 3 4 recur_twice_int.keyed Tryz.underlying142 (recur_twice_int.zero _) w.heap.size (met.map recur_twice_int.val) rfl HS.out _ _ (by rfl) KL.out false CM.out ?_) | (at_mapUpdate; refine RecM.wpList_add_set rfl _ _ _ 142 rfl 3 4 recur_twice_int.keyed Tryz.underlying142 w.heap.size (met.map recur_twice_int.val) rfl HS.out _ _ (by rfl) (by rfl) KL.out NM.out L8.out ?_; intro w1 hs1 hg1; have HS1 := Aside0.mk hs1; have HB1 := Aside0.mk (Below.grown HB.out hg1 HB.out.size (fun k e => by cases e; exact Nat.le_refl _)); clear hs1 hg1))
                go_roundg k1
                case measure => have := HK1.out; omega
                case rel => exact ⟨wrap64 (i + 1), met ++ [(rd l0 i)], by rfl, H', ⟨by have := HK1.out; omega⟩, ⟨by rw [List.map_append]; exact HS1.out⟩, HB1⟩
theorem recur_twice_string.keyed : Maps.Keyed Tryz.prog 9 := Maps.string_keyed Tryz.underlying9
theorem recur_twice_string.zero (w : World) : (zeroValue 4).run Tryz.prog w = .ok (.bool false) w := by kernel_rfl
def recur_twice_string.val : ByteArray → Value := fun x : ByteArray => Value.string x
theorem recur_twice_string.has_key (x : ByteArray) (h : x.size ≤ 140737488351232) : ∃ l, Go.keyOf Tryz.prog 9 (recur_twice_string.val x) = some l := ⟨_, WideMaps.keyOf_string_mk Tryz.underlying9 (by unfold maxLen; omega)⟩
theorem recur_twice_string.inj {x y : ByteArray} (h : recur_twice_string.val x = recur_twice_string.val y) : x = y := by injection h
def recur_twice_string.l0 : Nat → List ByteArray → List ByteArray → Int → Option (Bool)
 | 0, _, _, _ => none
 | k + 1, x0, x1, x2 => if x2 < (x0.length : Int) then (if 0 ≤ x2 then (if (rdOf ByteArray.empty x0 x2).size ≤ 140737488351232 then (if RecM.hasB x1 (rdOf ByteArray.empty x0 x2) = true then (some true) else (if x1.length < 1000000000 then (recur_twice_string.l0 k x0 (x1 ++ [(rdOf ByteArray.empty x0 x2)]) (wrap64 (x2 + 1))) else (none))) else (none)) else (none)) else (some false)
def recur_twice_string.f (k : Nat) (l0 : List ByteArray) : Option (Bool) := recur_twice_string.l0 k l0 ([] : List ByteArray) 0
theorem recur_twice_string.mono_l : ∀ k, (∀ y0 y1 y2, LeO (recur_twice_string.l0 k y0 y1 y2) (recur_twice_string.l0 (k + 1) y0 y1 y2))
  | 0 => fun _ _ _ r h => by simp [recur_twice_string.l0] at h
  | k + 1 => by
    have ih0 := recur_twice_string.mono_l k
    intro y0 y1 y2
    unfold recur_twice_string.l0
    repeat' first | (with_reducible first | exact ih0 _ _ _ | exact LeO.refl _ | exact LeO.none _ | refine LeO.ite ?_ ?_ | refine LeO.bind ?_ (fun _ => ?_))
theorem recur_twice_string.mono : ∀ a0 k, LeO (recur_twice_string.f k a0) (recur_twice_string.f (k + 1) a0) := by
  intro a0 k
  exact recur_twice_string.mono_l k _ _ _
set_option maxHeartbeats 8000000 in
set_option maxRecDepth 100000 in
theorem recur_twice_string.calls (k : Nat) (A0 : Option Addr) (c0 : Nat) (l0 : List ByteArray) (r : Bool) (w : World) (hr0 : Kd.C Kd.string w A0 l0.length l0) (hc0 : l0.length ≤ c0) (h : recur_twice_string.f k l0 = some r) :
  Calls Tryz.prog 36 #[.slice A0 l0.length c0] w fun e w' => e = .returned (.bool r) ∧ Below w.heap.size w w' := by
  have HR0 := Aside0.mk hr0
  have HC0 := Aside0.mk hc0
  have hmm := @run_makeMap Tryz.prog
  have hu38 := Tryz.underlying38
  clear hr0 hc0
  have H' : Aside0 (recur_twice_string.l0 k l0 ([] : List ByteArray) 0 = some r) := ⟨h⟩
  clear h
  go_enter Tryz.func36, Tryz.ntmps36
  go_wp2
  go_loopg [9] k (fun kq v9 w' => ∃ (i : Int) (met : List ByteArray), v9 = .int .i64 i ∧ Aside0 (recur_twice_string.l0 kq l0 met i = some r) ∧ Aside0 (kq ≤ k) ∧ Aside0 (RecM.SetOf Tryz.prog 9 w' w.heap.size (met.map recur_twice_string.val)) ∧ Aside0 (Below w.heap.size w w'))
  case atStart => exact ⟨0, [], by rfl, H', ⟨Nat.le_refl _⟩, ⟨RecM.SetOf.new w⟩, ⟨below_alloc (Below.refl _ _) _⟩⟩
  case round =>
    clear H'
    obtain ⟨i, met, rfl, HA, HK1, HS, HB⟩ := hrel
    cases gk with
    | zero => exact absurd HA.out (by simp [recur_twice_string.l0])
    | succ k1 =>
      have H := HA.out
      clear HA
      simp only [recur_twice_string.l0] at H
      by_cases c4 : i < (l0.length : Int)
      rotate_left
      · rw [if_neg c4] at H
        have c4b0 : decide (i < (l0.length : Int)) = false := decide_eq_false c4
        clear c4
        obtain rfl := Option.some.inj H
        go_wp2
        go_ret
        exact ⟨by rfl, HB.out⟩
      · rw [if_pos c4] at H
        have c4b0 : decide (i < (l0.length : Int)) = true := decide_eq_true c4
        by_cases c5 : 0 ≤ i
        rotate_left
        · rw [if_neg c5] at H; cases H
        · rw [if_pos c5] at H
          have c5b0 : decide (0 ≤ i) = true := decide_eq_true c5
          have c5b1 : (0 ≤ i) = True := eq_true c5
          have c4b1 : (i < (l0.length : Int)) = True := eq_true c4
          obtain ⟨ad, e0, hx⟩ := Kd.at_string HR0.out i c5 c4
          cases e0
          replace hx := (HB.out.cell (World.block_lt_of_cell? w _ hx)).trans hx
          by_cases c6 : (rdOf ByteArray.empty l0 i).size ≤ 140737488351232
          rotate_left
          · rw [if_neg c6] at H; cases H
          · rw [if_pos c6] at H
            obtain ⟨kl, hkl⟩ := recur_twice_string.has_key (rdOf ByteArray.empty l0 i) c6
            have KL := Aside0.mk hkl
            clear c6 hkl c5 c4
            by_cases c7 : RecM.hasB met (rdOf ByteArray.empty l0 i) = true
            · rw [if_pos c7] at H
              have CM : Aside0 ((true = true) ↔ recur_twice_string.val (rdOf ByteArray.empty l0 i) ∈ met.map recur_twice_string.val) := ⟨⟨fun _ => List.mem_map.2 ⟨_, RecM.hasB_iff.1 c7, rfl⟩, fun _ => rfl⟩⟩
              clear c7
              obtain rfl := Option.some.inj H
              go_wp2_with (first | (at_lookup; refine RecM.wpList_lookup_set rfl _ _ 112 rfl 9 4 recur_twice_string.keyed Tryz.underlying112 (recur_twice_string.zero _) w.heap.size (met.map recur_twice_string.val) rfl HS.out _ _ (by rfl) KL.out true CM.out ?_))
              go_ret
              exact ⟨by rfl, HB.out⟩
            · rw [if_neg c7] at H
              by_cases c8 : met.length < 1000000000
              rotate_left
              · rw [if_neg c8] at H; cases H
              · rw [if_pos c8] at H
                have hnm : recur_twice_string.val (rdOf ByteArray.empty l0 i) ∉ met.map recur_twice_string.val := fun hm => c7 (by
                  obtain ⟨y, hy, e⟩ := List.mem_map.1 hm
                  have : y = (rdOf ByteArray.empty l0 i) := recur_twice_string.inj e
                  rw [← this]
                  exact RecM.hasB_iff.2 hy)
                have NM := Aside0.mk hnm
                have CM : Aside0 ((false = true) ↔ recur_twice_string.val (rdOf ByteArray.empty l0 i) ∈ met.map recur_twice_string.val) := ⟨⟨fun h => (by cases h), fun h => absurd h hnm⟩⟩
                have L8 : Aside0 ((met.map recur_twice_string.val).length < maxLen) := ⟨by rw [List.length_map]; unfold maxLen; omega⟩
                have H' := Aside0.mk H
                clear c7 c8 hnm H
                go_wp2_with (first | (at_lookup; refine RecM.wpList_lookup_set rfl _ _ 112 rfl 9 4 recur_twice_string.keyed Tryz.underlying112 (recur_twice_string.zero _) w.heap.size (met.map recur_twice_string.val) rfl HS.out _ _ (by rfl) KL.out false CM.out ?_) | (at_mapUpdate; refine RecM.wpList_add_set rfl _ _ _ 112 rfl 9 4 recur_twice_string.keyed Tryz.underlying112 w.heap.size (met.map recur_twice_string.val) rfl HS.out _ _ (by rfl) (by rfl) KL.out NM.out L8.out ?_; intro w1 hs1 hg1; have HS1 := Aside0.mk hs1; have HB1 := Aside0.mk (Below.grown HB.out hg1 HB.out.size (fun k e => by cases e; exact Nat.le_refl _)); clear hs1 hg1))
                go_roundg k1
                case measure => have := HK1.out; omega
                case rel => exact ⟨wrap64 (i + 1), met ++ [(rdOf ByteArray.empty l0 i)], by rfl, H', ⟨by have := HK1.out; omega⟩, ⟨by rw [List.map_append]; exact HS1.out⟩, HB1⟩
theorem recur_twiceD.keyed : Maps.Keyed Tryz.prog 38 := Maps.Keyed.of_law (deep_law_gate (by kernel_rfl) (by decide +kernel) (by decide +kernel) (by kernel_rfl) (by rw [Tryz.underlying38]))
theorem recur_twiceD.zero (w : World) : (zeroValue 4).run Tryz.prog w = .ok (.bool false) w := by kernel_rfl
def recur_twiceD.val : (S38) → Value := fun x : S38 => Value.agg #[.int .i64 x.f0, .int .i64 x.f1]
theorem recur_twiceD.has_key (x : S38) (h : (-9223372036854775808 ≤ x.f0 ∧ x.f0 ≤ 9223372036854775807) ∧ (-9223372036854775808 ≤ x.f1 ∧ x.f1 ≤ 9223372036854775807)) : ∃ l, Go.keyOf Tryz.prog 38 (recur_twiceD.val x) = some l := by
  have h1 : Tryz.prog.keyType 38 = true := by kernel_rfl
  have hc : Tryz.prog.cellsOf 38 = 2 := by kernel_rfl
  have hc3 : Tryz.prog.cellsOf 3 = 1 := by kernel_rfl
  have h2 : (recur_twiceD.val x).formed Tryz.prog 38 = true := by simp [recur_twiceD.val, Value.formed, Tryz.underlying38, hc]
  have hn : Tryz.prog.types.size + 1 = 186 + 1 + 1 := by decide +kernel
  have w0 : (Lit.int .i64 x.f0).wf = true := by simp [Lit.wf, IntKind.min, IntKind.max, IntKind.signed, IntKind.bits]; omega
  have w1 : (Lit.int .i64 x.f1).wf = true := by simp [Lit.wf, IntKind.min, IntKind.max, IntKind.signed, IntKind.bits]; omega
  have h3 : ∀ d : Nat, Tryz.prog.keyLits (d + 1 + 1) 38 [.int .i64 x.f0, .int .i64 x.f1] = some [.int .i64 x.f0, .int .i64 x.f1] := fun d => by
    simp [Program.keyLits, Tryz.underlying38, Tryz.underlying3, hc, hc3, w0, w1]
  refine ⟨.string (keyBytes [.int .i64 x.f0, .int .i64 x.f1]), ?_⟩
  unfold Go.keyOf
  rw [Tryz.underlying38]
  simp only [h1, h2, Bool.and_self, if_true, hn]
  show Option.map _ (Tryz.prog.keyLits (186 + 1 + 1) 38 [.int .i64 x.f0, .int .i64 x.f1]) = _
  rw [h3]
  rfl
theorem recur_twiceD.inj {x y : S38} (h : recur_twiceD.val x = recur_twiceD.val y) : x = y := by
  cases x; cases y
  simp [recur_twiceD.val] at h
  simp [h]
theorem S38_ext {p q : S38} : p = q ↔ p.f0 = q.f0 ∧ p.f1 = q.f1 := by
  cases p; cases q
  simp
instance : DecidableEq S38 := fun p q => decidable_of_iff (p.f0 = q.f0 ∧ p.f1 = q.f1) S38_ext.symm
def recur_twiceD.l0 : Nat → List (S38) → List (S38) → Int → Option (Bool)
 | 0, _, _, _ => none
 | k + 1, x0, x1, x2 => if x2 < (x0.length : Int) then (if 0 ≤ x2 then (if (-9223372036854775808 ≤ (rd_T38 x0 x2).f0 ∧ (rd_T38 x0 x2).f0 ≤ 9223372036854775807) ∧ (-9223372036854775808 ≤ (rd_T38 x0 x2).f1 ∧ (rd_T38 x0 x2).f1 ≤ 9223372036854775807) then (if RecM.hasB x1 (rd_T38 x0 x2) = true then (some true) else (if x1.length < 1000000000 then (recur_twiceD.l0 k x0 (x1 ++ [(rd_T38 x0 x2)]) (wrap64 (x2 + 1))) else (none))) else (none)) else (none)) else (some false)
def recur_twiceD.f (k : Nat) (l0 : List (S38)) : Option (Bool) := recur_twiceD.l0 k l0 ([] : List (S38)) 0
theorem recur_twiceD.mono_l : ∀ k, (∀ y0 y1 y2, LeO (recur_twiceD.l0 k y0 y1 y2) (recur_twiceD.l0 (k + 1) y0 y1 y2))
  | 0 => fun _ _ _ r h => by simp [recur_twiceD.l0] at h
  | k + 1 => by
    have ih0 := recur_twiceD.mono_l k
    intro y0 y1 y2
    unfold recur_twiceD.l0
    repeat' first | (with_reducible first | exact ih0 _ _ _ | exact LeO.refl _ | exact LeO.none _ | refine LeO.ite ?_ ?_ | refine LeO.bind ?_ (fun _ => ?_))
theorem recur_twiceD.mono : ∀ a0 k, LeO (recur_twiceD.f k a0) (recur_twiceD.f (k + 1) a0) := by
  intro a0 k
  exact recur_twiceD.mono_l k _ _ _
set_option maxHeartbeats 8000000 in
set_option maxRecDepth 100000 in
theorem recur_twiceD.calls (k : Nat) (A0 : Option Addr) (c0 : Nat) (l0 : List (S38)) (r : Bool) (w : World) (hr0 : Kd.C k38 w A0 l0.length l0) (hc0 : l0.length ≤ c0) (h : recur_twiceD.f k l0 = some r) :
  Calls Tryz.prog 88 #[.slice A0 l0.length c0] w fun e w' => e = .returned (.bool r) ∧ Below w.heap.size w w' := by
  have HR0 := Aside0.mk hr0
  have HC0 := Aside0.mk hc0
  have hmm := @run_makeMap Tryz.prog
  have hu38 := Tryz.underlying38
  clear hr0 hc0
  have H' : Aside0 (recur_twiceD.l0 k l0 ([] : List (S38)) 0 = some r) := ⟨h⟩
  clear h
  go_enter Tryz.func88, Tryz.ntmps88
  go_wp2
  go_loopg [9] k (fun kq v9 w' => ∃ (i : Int) (met : List (S38)), v9 = .int .i64 i ∧ Aside0 (recur_twiceD.l0 kq l0 met i = some r) ∧ Aside0 (kq ≤ k) ∧ Aside0 (RecM.SetOf Tryz.prog 38 w' w.heap.size (met.map recur_twiceD.val)) ∧ Aside0 (Below w.heap.size w w'))
  case atStart => exact ⟨0, [], by rfl, H', ⟨Nat.le_refl _⟩, ⟨RecM.SetOf.new w⟩, ⟨below_alloc (Below.refl _ _) _⟩⟩
  case round =>
    clear H'
    obtain ⟨i, met, rfl, HA, HK1, HS, HB⟩ := hrel
    cases gk with
    | zero => exact absurd HA.out (by simp [recur_twiceD.l0])
    | succ k1 =>
      have H := HA.out
      clear HA
      simp only [recur_twiceD.l0] at H
      by_cases c4 : i < (l0.length : Int)
      rotate_left
      · rw [if_neg c4] at H
        have c4b0 : decide (i < (l0.length : Int)) = false := decide_eq_false c4
        clear c4
        obtain rfl := Option.some.inj H
        go_wp2
        go_ret
        exact ⟨by rfl, HB.out⟩
      · rw [if_pos c4] at H
        have c4b0 : decide (i < (l0.length : Int)) = true := decide_eq_true c4
        by_cases c5 : 0 ≤ i
        rotate_left
        · rw [if_neg c5] at H; cases H
        · rw [if_pos c5] at H
          have c5b0 : decide (0 ≤ i) = true := decide_eq_true c5
          have c5b1 : (0 ≤ i) = True := eq_true c5
          have c4b1 : (i < (l0.length : Int)) = True := eq_true c4
          obtain ⟨ad, e0, hx0, hx1⟩ := at_T38 HR0.out i c5 c4
          cases e0
          replace hx0 := (HB.out.cell (World.block_lt_of_cell? w _ hx0)).trans hx0
          replace hx1 := (HB.out.cell (World.block_lt_of_cell? w _ hx1)).trans hx1
          by_cases c6 : (-9223372036854775808 ≤ (rd_T38 l0 i).f0 ∧ (rd_T38 l0 i).f0 ≤ 9223372036854775807) ∧ (-9223372036854775808 ≤ (rd_T38 l0 i).f1 ∧ (rd_T38 l0 i).f1 ≤ 9223372036854775807)
          rotate_left
          · rw [if_neg c6] at H; cases H
          · rw [if_pos c6] at H
            obtain ⟨kl, hkl⟩ := recur_twiceD.has_key (rd_T38 l0 i) c6
            have KL := Aside0.mk hkl
            clear c6 hkl c5 c4
            by_cases c7 : RecM.hasB met (rd_T38 l0 i) = true
            · rw [if_pos c7] at H
              have CM : Aside0 ((true = true) ↔ recur_twiceD.val (rd_T38 l0 i) ∈ met.map recur_twiceD.val) := ⟨⟨fun _ => List.mem_map.2 ⟨_, RecM.hasB_iff.1 c7, rfl⟩, fun _ => rfl⟩⟩
              clear c7
              obtain rfl := Option.some.inj H
              go_wp2_with (first | (at_lookup; refine RecM.wpList_lookup_set rfl _ _ 144 rfl 38 4 recur_twiceD.keyed Tryz.underlying144 (recur_twiceD.zero _) w.heap.size (met.map recur_twiceD.val) rfl (RecM.SetOf.below HS.out (below_alloc (Below.refl _ _) _)) _ _ (by rfl) KL.out true CM.out ?_))
              go_ret
              exact ⟨by rfl, (below_alloc HB.out _)⟩
            · rw [if_neg c7] at H
              by_cases c8 : met.length < 1000000000
              rotate_left
              · rw [if_neg c8] at H; cases H
              · rw [if_pos c8] at H
                have hnm : recur_twiceD.val (rd_T38 l0 i) ∉ met.map recur_twiceD.val := fun hm => c7 (by
                  obtain ⟨y, hy, e⟩ := List.mem_map.1 hm
                  have : y = (rd_T38 l0 i) := recur_twiceD.inj e
                  rw [← this]
                  exact RecM.hasB_iff.2 hy)
                have NM := Aside0.mk hnm
                have CM : Aside0 ((false = true) ↔ recur_twiceD.val (rd_T38 l0 i) ∈ met.map recur_twiceD.val) := ⟨⟨fun h => (by cases h), fun h => absurd h hnm⟩⟩
                have L8 : Aside0 ((met.map recur_twiceD.val).length < maxLen) := ⟨by rw [List.length_map]; unfold maxLen; omega⟩
                have H' := Aside0.mk H
                clear c7 c8 hnm H
                go_wp2_with (first | (at_lookup; refine RecM.wpList_lookup_set rfl _ _ 144 rfl 38 4 recur_twiceD.keyed Tryz.underlying144 (recur_twiceD.zero _) w.heap.size (met.map recur_twiceD.val) rfl (RecM.SetOf.below HS.out (below_alloc (Below.refl _ _) _)) _ _ (by rfl) KL.out false CM.out ?_) | (at_mapUpdate; refine RecM.wpList_add_set rfl _ _ _ 144 rfl 38 4 recur_twiceD.keyed Tryz.underlying144 w.heap.size (met.map recur_twiceD.val) rfl (RecM.SetOf.below HS.out (below_alloc (Below.refl _ _) _)) _ _ (by rfl) (by rfl) KL.out NM.out L8.out ?_; intro w1 hs1 hg1; have HS1 := Aside0.mk hs1; have HB1 := Aside0.mk (Below.grown (below_alloc HB.out _) hg1 (below_alloc HB.out _).size (fun k e => by cases e; exact Nat.le_refl _)); clear hs1 hg1))
                go_roundg k1
                case measure => have := HK1.out; omega
                case rel => exact ⟨wrap64 (i + 1), met ++ [(rd_T38 l0 i)], by rfl, H', ⟨by have := HK1.out; omega⟩, ⟨by rw [List.map_append]; exact HS1.out⟩, HB1⟩
end Go.Proofs.YtjanombhdnoemaaGreatDoor.PRec
