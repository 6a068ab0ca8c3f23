/- The walk of fields.Split, by contract: what its fields are. No condition. -/
import Derived.Test.YtmkknigneppneaaDoorFldS
namespace Go.Proofs.YtmkknigneppneaaDoor.FldR
open Go.RowKit Go.Proofs.YtmkknigneppneaaDoorW.PrintWords Go.Proofs.YtmkknigneppneaaDoorW.PrintLast Go.Proofs.YtmkknigneppneaaDoorW.PrintMore
attribute [local go_sem] max2_int min2_int max_two min_two max_three min_three max_four min_four   -- for this text's walks alone
set_option linter.unusedVariables false
set_option linter.unusedSimpArgs false
/-- What a reader has read behind so many bytes from a place on. -/
def run (s : ByteArray) : Nat → Int → St → St
  | 0, _, x => x
  | n + 1, i, x => match stp x (bt s i) with
    | none => x
    | some y => run s n (i + 1) y
def init : St := ([], [], false, false)
def ix (s : ByteArray) (c : Int) : Int := Lib.indexByte s.data.toList c.toNat.toUInt8
theorem stp_len {x y : St} {c : Int} (h : stp x c = some y) : y.1.length ≤ x.1.length + 1 ∧ y.2.1.length ≤ x.2.1.length + 1 := by
  unfold stp endS at h
  split at h
  · obtain rfl := Option.some.inj h; exact ⟨Nat.le_succ _, Nat.le_succ _⟩
  · split at h
    · obtain rfl := Option.some.inj h; exact ⟨Nat.le_succ _, by simp⟩
    · split at h
      · cases h
      · split at h
        · obtain rfl := Option.some.inj h
          refine ⟨?_, by simp⟩
          show (if x.2.2.1 = true then x.1 ++ [strOfNums x.2.1] else x.1).length ≤ _
          split
          · simp
          · omega
        · obtain rfl := Option.some.inj h; exact ⟨Nat.le_succ _, by simp⟩
theorem run_len (s : ByteArray) : ∀ (n : Nat) (i : Int) (x : St), (run s n i x).1.length ≤ x.1.length + n ∧ (run s n i x).2.1.length ≤ x.2.1.length + n
  | 0, _, x => ⟨Nat.le_refl _, Nat.le_refl _⟩
  | n + 1, i, x => by
    rw [run]
    split
    · exact ⟨by omega, by omega⟩
    · rename_i y hy
      have h1 := run_len s n (i + 1) y
      have h2 := stp_len hy
      exact ⟨by omega, by omega⟩
theorem rdr_new (w : World) : RdrS w.heap.size (w.alloc (.cells #[.slice none 0 0, .slice none 0 0, .bool false, .bool false] 40)) w.heap.size init :=
  ⟨_, _, ⟨blk_new _ _, Nat.le_refl _, Kd.R_nil _ _ _ _ _, Kd.R_nil _ _ _ _ _⟩⟩
/-- The walk behind the loop, as one: at whichever of its two ends it is left. -/
def Good (w : World) (a0 : ByteArray) (r : List ByteArray × Int) : Prop :=
  r = if (run a0 a0.size 0 init).2.2.2 = true then ([], 6) else ((endS (run a0 a0.size 0 init)).1, 0)
set_option maxHeartbeats 8000000 in
set_option maxRecDepth 100000 in
theorem split_long (a0 : ByteArray) (w : World) (h : 600 < (a0.size : Int)) :
    Calls Tryd.prog 8 #[.string a0] w fun e w' => e = .returned (.tuple #[.slice none 0 0, .int .i64 2]) ∧ w' = w := by
  have c0 : decide (600 < (a0.size : Int)) = true := decide_eq_true h
  clear h
  go_enter Tryd.func8, Tryd.ntmps8
  go_wp2
  go_ret2
  exact ⟨rfl, rfl⟩
set_option maxHeartbeats 8000000 in
set_option maxRecDepth 100000 in
theorem split_bad (a0 : ByteArray) (w : World) (h : ¬ 600 < (a0.size : Int)) (hb : 0 ≤ ix a0 0 ∨ 0 ≤ ix a0 10) :
    Calls Tryd.prog 8 #[.string a0] w fun e w' => e = .returned (.tuple #[.slice none 0 0, .int .i64 6]) ∧ w' = w := by
  have c0 : decide (600 < (a0.size : Int)) = false := decide_eq_false h
  have hI : ∀ c w, Calls Tryd.prog 14 #[.string a0, .int .u8 c] w fun e w' => e = .returned (.int .i64 (ix a0 c)) ∧ w = w' := fun c w => (Tryd.strings_IndexByte a0 c w).mono fun e w' ⟨he, hw⟩ => ⟨he, hw.symm⟩
  generalize ix a0 = f at hI hb
  have HI := Aside0.mk hI
  clear h hI
  by_cases h0 : 0 ≤ f 0
  · have c1 : decide (0 ≤ f 0) = true := decide_eq_true h0
    clear h0 hb
    go_enter Tryd.func8, Tryd.ntmps8
    go_wp2_with (go_at_call 14; (with_reducible refine (HI.out _ _).mono ?_); rintro e w' ⟨rfl, rfl⟩)
    go_ret2
    exact ⟨rfl, rfl⟩
  · have c1 : decide (0 ≤ f 0) = false := decide_eq_false h0
    have c2 : decide (0 ≤ f 10) = true := decide_eq_true (hb.resolve_left h0)
    clear h0 hb
    go_enter Tryd.func8, Tryd.ntmps8
    go_wp2_with (go_at_call 14; (with_reducible refine (HI.out _ _).mono ?_); rintro e w' ⟨rfl, rfl⟩)
    go_ret2
    exact ⟨rfl, rfl⟩
set_option maxHeartbeats 16000000 in
set_option maxRecDepth 100000 in
theorem split_good (a0 : ByteArray) (w : World) (h : ¬ 600 < (a0.size : Int)) (hb : ¬ (0 ≤ ix a0 0 ∨ 0 ≤ ix a0 10)) (r : List ByteArray × Int) (hr : Good w a0 r) :
    Calls Tryd.prog 8 #[.string a0] w fun e w' => ∃ v' : Value, e = .returned (.tuple #[v', .int .i64 r.2]) ∧ Kd.R Kd.string 9 w' w.heap.size (fun _ => True) v' r.1 ∧ Below w.heap.size w w' := by
  have c0 : decide (600 < (a0.size : Int)) = false := decide_eq_false h
  have hI : ∀ c w, Calls Tryd.prog 14 #[.string a0, .int .u8 c] w fun e w' => e = .returned (.int .i64 (ix a0 c)) ∧ w = w' := fun c w => (Tryd.strings_IndexByte a0 c w).mono fun e w' ⟨he, hw⟩ => ⟨he, hw.symm⟩
  generalize ix a0 = f at hI hb
  have HI := Aside0.mk hI
  have c1 : decide (0 ≤ f 0) = false := decide_eq_false (fun h => hb (Or.inl h))
  have c2 : decide (0 ≤ f 10) = false := decide_eq_false (fun h => hb (Or.inr h))
  have HS : Aside0 ((a0.size : Int) ≤ 600) := ⟨by omega⟩
  have HG := Aside0.mk hr
  have HN := Aside0.mk (rdr_new w)
  clear h hI hb hr
  go_enter Tryd.func8, Tryd.ntmps8
  go_wp2_with (go_at_call 14; (with_reducible refine (HI.out _ _).mono ?_); rintro e w' ⟨rfl, rfl⟩)
  go_loopg [21] a0.size (fun kq v21 w' => ∃ (i : Int) (s : St), v21 = .int .i64 i ∧ Aside0 (0 ≤ i ∧ i + kq = (a0.size : Int)) ∧ Aside0 ((s.1.length : Int) ≤ i ∧ (s.2.1.length : Int) ≤ i) ∧ Aside0 (run a0 kq i s = run a0 a0.size 0 init) ∧ Aside0 (RdrS w.heap.size w' w.heap.size s) ∧ Aside0 (Below w.heap.size w w'))
  case atStart => exact ⟨0, init, by rfl, ⟨by omega, by omega⟩, ⟨by simp [init], by simp [init]⟩, ⟨rfl⟩, HN, ⟨below_alloc (Below.refl _ _) _⟩⟩
  case round =>
    obtain ⟨i, s, rfl, H1, H2, H3, H4, H5⟩ := hrel
    have L1 := run_len a0 gk i s
    have P1 : Aside0 (s.1.length < 1000000 ∧ s.2.1.length < 1000000) := ⟨by have := H2.out; have := H1.out; have := HS.out; omega⟩
    by_cases hlt : i < (a0.size : Int)
    · have p8 : 0 ≤ i := H1.out.1
      have hk : gk = (gk - 1) + 1 := by have := H1.out; omega
      have HK : Aside0 (0 < gk) := ⟨by omega⟩
      have hx8 := bt_at a0 i
      have e0 := H3.out
      rw [hk, run] at e0
      cases hst : stp s (bt a0 i) with
      | none =>
        rw [hst] at e0
        have hfin : s = run a0 a0.size 0 init := e0
        have E2 := Aside0.mk hst
        have c5 : decide (i < (a0.size : Int)) = true := decide_eq_true hlt
        replace p8 := eq_true p8
        have q8 := eq_true hlt
        clear e0 hst L1 hk hlt
        have hr := HG.out
        unfold Good at hr
        rw [← hfin] at hr
        have HF := Aside0.mk hfin
        clear hfin HG
        by_cases hq : s.2.2.2 = true
        · rw [if_pos hq] at hr
          subst hr
          have c3 : wr.cell? ⟨w.heap.size, 3, none⟩ = some (.bool true) := by
            obtain ⟨vo, vf, h⟩ := H4.out
            rw [hq] at h
            exact (blk_cell h.b 3).trans rfl
          clear hq
          go_wp2_with ((go_at_call 15; (with_reducible refine (byte_no _ _ w _ s _ E2.out H4.out).mono ?_); rintro e w2 ⟨rfl, hw⟩; subst hw))
          go_ret2
          exact ⟨_, rfl, Kd.R_nil _ _ _ _ _, H5.out⟩
        · rw [if_neg hq] at hr
          subst hr
          have c3 : wr.cell? ⟨w.heap.size, 3, none⟩ = some (.bool false) := by
            obtain ⟨vo, vf, h⟩ := H4.out
            rw [show s.2.2.2 = false by simpa using hq] at h
            exact (blk_cell h.b 3).trans rfl
          have P2 : Aside0 (s.1.length < 1000000) := ⟨P1.out.1⟩
          clear hq
          go_wp2_with (first | (go_at_call 15; (with_reducible refine (byte_no _ _ w _ s _ E2.out H4.out).mono ?_); rintro e w2 ⟨rfl, hw⟩; subst hw) | (go_at_call 16; (with_reducible refine (ends_calls _ _ w _ s P2.out H4.out H5.out (below_size H5.out)).mono ?_); rintro e w2 ⟨rfl, hr, hb⟩; obtain ⟨vo, vf, hR⟩ := hr; obtain ⟨Ao, co, eo⟩ := Kd.R_slice hR.o; subst eo; have c0' : w2.cell? ⟨w.heap.size, 0, none⟩ = some (.slice Ao (endS s).1.length co) := (blk_cell hR.b 0).trans rfl; have B1 := Aside0.mk hR; have B2 := Aside0.mk hb; clear hR hb))
          go_ret2
          exact ⟨_, rfl, B1.out.o, B2.out⟩
      | some y =>
        rw [hst] at e0
        have E1 := Aside0.mk e0
        have E2 := Aside0.mk hst
        have E3 := Aside0.mk (stp_len hst)
        have hw1 : wrap64 (i + 1) = i + 1 := by have := H1.out; have := HS.out; unfold wrap64; omega
        have W1 := Aside0.mk hw1
        have c5 : decide (i < (a0.size : Int)) = true := decide_eq_true hlt
        replace p8 := eq_true p8
        have q8 := eq_true hlt
        clear e0 hst L1 hk hw1 hlt
        go_wp2_with (go_at_call 15; (with_reducible refine (byte_yes _ _ w _ s y _ E2.out P1.out H4.out H5.out (below_size H5.out)).mono ?_); rintro e w2 ⟨rfl, hr, hb⟩; have B1 := Aside0.mk hr; have B2 := Aside0.mk hb; clear hr hb)
        go_roundg (gk - 1)
        case measure => have := HK.out; omega
        case rel => exact ⟨_, y, rfl, ⟨by rw [W1.out]; have := H1.out; have := HK.out; omega⟩, ⟨by rw [W1.out]; have := H2.out; have := E3.out; omega⟩, ⟨by rw [W1.out]; exact E1.out⟩, B1, B2⟩
    · have hk : gk = 0 := by have := H1.out; omega
      have hfin : s = run a0 a0.size 0 init := by
        have := H3.out
        rw [hk] at this
        exact this
      have c5 : decide (i < (a0.size : Int)) = false := decide_eq_false hlt
      clear L1 hk hlt
      have hr := HG.out
      unfold Good at hr
      rw [← hfin] at hr
      have HF := Aside0.mk hfin
      clear hfin HG
      by_cases hq : s.2.2.2 = true
      · rw [if_pos hq] at hr
        subst hr
        have c3 : wr.cell? ⟨w.heap.size, 3, none⟩ = some (.bool true) := by
          obtain ⟨vo, vf, h⟩ := H4.out
          rw [hq] at h
          exact (blk_cell h.b 3).trans rfl
        clear hq
        go_wp2
        go_ret2
        exact ⟨_, rfl, Kd.R_nil _ _ _ _ _, H5.out⟩
      · rw [if_neg hq] at hr
        subst hr
        have c3 : wr.cell? ⟨w.heap.size, 3, none⟩ = some (.bool false) := by
          obtain ⟨vo, vf, h⟩ := H4.out
          rw [show s.2.2.2 = false by simpa using hq] at h
          exact (blk_cell h.b 3).trans rfl
        have P2 : Aside0 (s.1.length < 1000000) := ⟨P1.out.1⟩
        clear hq
        go_wp2_with (first | (go_at_call 16; (with_reducible refine (ends_calls _ _ w _ s P2.out H4.out H5.out (below_size H5.out)).mono ?_); rintro e w2 ⟨rfl, hr, hb⟩; obtain ⟨vo, vf, hR⟩ := hr; obtain ⟨Ao, co, eo⟩ := Kd.R_slice hR.o; subst eo; have c0' : w2.cell? ⟨w.heap.size, 0, none⟩ = some (.slice Ao (endS s).1.length co) := (blk_cell hR.b 0).trans rfl; have B1 := Aside0.mk hR; have B2 := Aside0.mk hb; clear hR hb))
        go_ret2
        exact ⟨_, rfl, B1.out.o, B2.out⟩
end Go.Proofs.YtmkknigneppneaaDoor.FldR
