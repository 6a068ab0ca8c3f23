/- The walks of fields.reader's method byte, of fields.blank and fields.Split, by contract. No condition. -/
import Derived.Test.YtmkknigneppneaaDoorFldT
namespace Go.Proofs.YtmkknigneppneaaDoor.FldR
open Go.RowKit Go.Proofs.YtmkknigneppneaaDoorW.PrintWords Go.Proofs.YtmkknigneppneaaDoorW.PrintLast Go.Proofs.YtmkknigneppneaaDoorW.PrintMore
attribute [local go_sem] max2_int min2_int max_two min_two max_three min_three max_four min_four   -- for this text's walks alone
set_option linter.unusedVariables false
set_option linter.unusedSimpArgs false
/-- Is a byte one of these? -/
def blankB (c : Int) : Bool := decide (0 ≤ Lib.indexByte (⟨#[32, 9, 13]⟩ : ByteArray).data.toList c.toNat.toUInt8)
set_option maxHeartbeats 8000000 in
set_option maxRecDepth 100000 in
theorem blank_calls (c : Int) (w : World) : Calls Tryd.prog 23 #[.int .u8 c] w fun e w' => e = .returned (.bool (blankB c)) ∧ w' = w := by
  go_enter Tryd.func23, Tryd.ntmps23
  go_wp2_with (go_at_call 14; (with_reducible refine (Tryd.strings_IndexByte _ _ _).mono ?_); rintro e w' ⟨rfl, rfl⟩)
  go_ret
  exact ⟨rfl, rfl⟩
set_option maxHeartbeats 8000000 in
set_option maxRecDepth 100000 in
theorem byte_quote (B g : Nat) (w0 w : World) (vo vf : Value) (out : List ByteArray) (fld : List Int) (op qu : Bool) (H : Rdr B w g vo vf out fld op qu) (HB : Below B w0 w) :
    Calls Tryd.prog 15 #[.pointer (some ⟨g, 0, none⟩), .int .u8 34] w fun e w' => e = .returned (.bool true) ∧ Rdr B w' g vo vf out fld true (!qu) ∧ Below B w0 w' := by
  have A1 := Aside0.mk H
  have A2 := Aside0.mk HB
  have c3 : w.cell? ⟨g, 3, none⟩ = some (.bool qu) := (blk_cell H.b 3).trans rfl
  have f3 := blk_frozen H.b 3
  have f2 := blk_frozen H.b 2
  have c2 : w.cell? ⟨g, 2, none⟩ = some (.bool op) := (blk_cell H.b 2).trans rfl
  clear H HB
  go_enter Tryd.func15, Tryd.ntmps15
  go_wp2
  go_ret
  exact ⟨rfl, (A1.out.set3 (!qu)).set2 true, (A2.out.setCell A1.out.g _).setCell A1.out.g _⟩
set_option maxHeartbeats 8000000 in
set_option maxRecDepth 100000 in
theorem byte_quoted (B g : Nat) (w0 w : World) (vo vf : Value) (out : List ByteArray) (fld : List Int) (op : Bool) (c : Int) (hq : c ≠ 34) (hl : fld.length < 1000000) (H : Rdr B w g vo vf out fld op true) (HB : Below B w0 w) (hBw : B ≤ w.heap.size) :
    Calls Tryd.prog 15 #[.pointer (some ⟨g, 0, none⟩), .int .u8 c] w fun e w' => e = .returned (.bool true) ∧ (∃ v1, Rdr B w' g vo v1 out (fld ++ [c]) op true) ∧ Below B w0 w' := by
  have A1 := Aside0.mk H
  have A2 := Aside0.mk HB
  have A3 := Aside0.mk hl
  have A4 := Aside0.mk hBw
  have q1 : (c == 34) = false := beq_eq_false_iff_ne.2 hq
  have c1 : w.cell? ⟨g, 1, none⟩ = some vf := (blk_cell H.b 1).trans rfl
  have f1 := blk_frozen H.b 1
  have c3 : w.cell? ⟨g, 3, none⟩ = some (.bool true) := (blk_cell H.b 3).trans rfl
  clear H HB hq hl hBw
  go_enter Tryd.func15, Tryd.ntmps15
  go_wp2_with (at_builtin; refine Kd.R_append (Kd.int .u8) (w0 := w0) B rfl (.tmp 41) (.tmp 43) 38 5 (.int .u8 0) 1 rfl Tryd.underlying38 r_info5 rfl (by decide) (by omega) vf fld c [.int .u8 c] (fun _ => True) (fun _ => False) rfl rfl rfl (fun _ hk => hk.elim) (fun _ _ => trivial) A1.out.f A2.out A4.out (by have := A3.out; omega) ?_; intro v1 w1 ho hb hg hat; obtain ⟨Ao, co, eo⟩ := Kd.R_slice ho; rw [List.length_append, List.length_singleton] at eo; subst eo; have B1 := Aside0.mk (A1.out.fgrow hg ho); have B2 := Aside0.mk hb; have f1' := blk_frozen (blk_grown A1.out.b hg A1.out.neF) 1; have c1' : w1.cell? ⟨g, 1, none⟩ = some vf := (blk_cell (blk_grown A1.out.b hg A1.out.neF) 1).trans rfl; clear ho hb hg hat)
  go_ret
  exact ⟨rfl, ⟨_, B1.out⟩, B2.out.setCell A1.out.g _⟩
set_option maxHeartbeats 8000000 in
set_option maxRecDepth 100000 in
theorem byte_else (B g : Nat) (w0 w : World) (vo vf : Value) (out : List ByteArray) (fld : List Int) (op : Bool) (c : Int) (hq : c ≠ 34) (hh : c ≠ 35) (hbl : blankB c = false) (hl : fld.length < 1000000) (H : Rdr B w g vo vf out fld op false) (HB : Below B w0 w) (hBw : B ≤ w.heap.size) :
    Calls Tryd.prog 15 #[.pointer (some ⟨g, 0, none⟩), .int .u8 c] w fun e w' => e = .returned (.bool true) ∧ (∃ v1, Rdr B w' g vo v1 out (fld ++ [c]) true false) ∧ Below B w0 w' := by
  have A1 := Aside0.mk H
  have A2 := Aside0.mk HB
  have A3 := Aside0.mk hl
  have A4 := Aside0.mk hBw
  have q1 : (c == 34) = false := beq_eq_false_iff_ne.2 hq
  have q2 : (c == 35) = false := beq_eq_false_iff_ne.2 hh
  have c1 : w.cell? ⟨g, 1, none⟩ = some vf := (blk_cell H.b 1).trans rfl
  have f1 := blk_frozen H.b 1
  have c3 : w.cell? ⟨g, 3, none⟩ = some (.bool false) := (blk_cell H.b 3).trans rfl
  clear H HB hq hl hBw hh
  go_enter Tryd.func15, Tryd.ntmps15
  go_wp2_with (first | (go_at_call 23; (with_reducible refine (blank_calls _ _).mono ?_); rintro e w' ⟨rfl, rfl⟩; rw [hbl]) | (at_builtin; refine Kd.R_append (Kd.int .u8) (w0 := w0) B rfl (.tmp 10) (.tmp 12) 38 5 (.int .u8 0) 1 rfl Tryd.underlying38 r_info5 rfl (by decide) (by omega) vf fld c [.int .u8 c] (fun _ => True) (fun _ => False) rfl rfl rfl (fun _ hk => hk.elim) (fun _ _ => trivial) A1.out.f A2.out A4.out (by have := A3.out; omega) ?_; intro v1 w1 ho hb hg hat; obtain ⟨Ao, co, eo⟩ := Kd.R_slice ho; rw [List.length_append, List.length_singleton] at eo; subst eo; have B1 := Aside0.mk (A1.out.fgrow hg ho); have B2 := Aside0.mk hb; have f1' := blk_frozen (blk_grown A1.out.b hg A1.out.neF) 1; have f2' := blk_frozen (blk_grown A1.out.b hg A1.out.neF) 2; have c1' : w1.cell? ⟨g, 1, none⟩ = some vf := (blk_cell (blk_grown A1.out.b hg A1.out.neF) 1).trans rfl; have c2' : w1.cell? ⟨g, 2, none⟩ = some (.bool op) := (blk_cell (blk_grown A1.out.b hg A1.out.neF) 2).trans rfl; clear ho hb hg hat))
  go_ret
  exact ⟨rfl, ⟨_, B1.out.set2 true⟩, (B2.out.setCell A1.out.g _).setCell A1.out.g _⟩
set_option maxHeartbeats 8000000 in
set_option maxRecDepth 100000 in
theorem byte_hash (B g : Nat) (w0 w : World) (vo vf : Value) (out : List ByteArray) (fld : List Int) (op : Bool) (H : Rdr B w g vo vf out fld op false) :
    Calls Tryd.prog 15 #[.pointer (some ⟨g, 0, none⟩), .int .u8 35] w fun e w' => e = .returned (.bool false) ∧ w' = w := by
  have c3 : w.cell? ⟨g, 3, none⟩ = some (.bool false) := (blk_cell H.b 3).trans rfl
  clear H
  go_enter Tryd.func15, Tryd.ntmps15
  go_wp2
  go_ret
  exact ⟨rfl, rfl⟩
/-- What a reader has read. -/
abbrev St := List ByteArray × List Int × Bool × Bool
def RdrS (B : Nat) (w : World) (g : Nat) (s : St) : Prop := ∃ vo vf, Rdr B w g vo vf s.1 s.2.1 s.2.2.1 s.2.2.2
def endS (s : St) : St := (if s.2.2.1 = true then s.1 ++ [strOfNums s.2.1] else s.1, [], false, s.2.2.2)
theorem ends_calls (B g : Nat) (w0 w : World) (s : St) (hl : s.1.length < 1000000) (H : RdrS B w g s) (HB : Below B w0 w) (hBw : B ≤ w.heap.size) :
    Calls Tryd.prog 16 #[.pointer (some ⟨g, 0, none⟩)] w fun e w' => e = .returned (.tuple #[]) ∧ RdrS B w' g (endS s) ∧ Below B w0 w' := by
  obtain ⟨out, fld, op, qu⟩ := s
  obtain ⟨vo, vf, H⟩ := H
  cases op with
  | false => exact (ends_shut B g w0 w vo vf out fld qu H HB).mono fun e w' ⟨he, hr, hb⟩ => ⟨he, ⟨_, _, hr⟩, hb⟩
  | true => exact (ends_open B g w0 w vo vf out fld qu hl H HB hBw).mono fun e w' ⟨he, ⟨v1, hr⟩, hb⟩ => ⟨he, ⟨_, _, hr⟩, hb⟩
set_option maxHeartbeats 8000000 in
set_option maxRecDepth 100000 in
theorem byte_blank (B g : Nat) (w0 w : World) (s : St) (c : Int) (hq : c ≠ 34) (hh : c ≠ 35) (hbl : blankB c = true) (hl : s.1.length < 1000000) (hu : s.2.2.2 = false) (H : RdrS B w g s) (HB : Below B w0 w) (hBw : B ≤ w.heap.size) :
    Calls Tryd.prog 15 #[.pointer (some ⟨g, 0, none⟩), .int .u8 c] w fun e w' => e = .returned (.bool true) ∧ RdrS B w' g (endS s) ∧ Below B w0 w' := by
  have c3 : w.cell? ⟨g, 3, none⟩ = some (.bool false) := by
    obtain ⟨vo, vf, h⟩ := H
    rw [hu] at h
    exact (blk_cell h.b 3).trans rfl
  have A1 := Aside0.mk H
  have A2 := Aside0.mk HB
  have A3 := Aside0.mk hl
  have A4 := Aside0.mk hBw
  have q1 : (c == 34) = false := beq_eq_false_iff_ne.2 hq
  have q2 : (c == 35) = false := beq_eq_false_iff_ne.2 hh
  clear H HB hq hl hBw hh hu
  go_enter Tryd.func15, Tryd.ntmps15
  go_wp2_with (first | (go_at_call 23; (with_reducible refine (blank_calls _ _).mono ?_); rintro e w' ⟨rfl, rfl⟩; rw [hbl]) | (go_at_call 16; (with_reducible refine (ends_calls B g w0 _ s A3.out A1.out A2.out A4.out).mono ?_); rintro e w' ⟨rfl, hr, hb⟩; have B1 := Aside0.mk hr; have B2 := Aside0.mk hb; clear hr hb))
  go_ret
  exact ⟨rfl, B1.out, B2.out⟩
def stp (s : St) (c : Int) : Option St :=
  if c = 34 then some (s.1, s.2.1, true, !s.2.2.2) else if s.2.2.2 = true then some (s.1, s.2.1 ++ [c], s.2.2.1, true) else if c = 35 then none else if blankB c = true then some (endS s) else some (s.1, s.2.1 ++ [c], true, false)
theorem byte_yes (B g : Nat) (w0 w : World) (s s' : St) (c : Int) (hs : stp s c = some s') (hl : s.1.length < 1000000 ∧ s.2.1.length < 1000000) (H : RdrS B w g s) (HB : Below B w0 w) (hBw : B ≤ w.heap.size) :
    Calls Tryd.prog 15 #[.pointer (some ⟨g, 0, none⟩), .int .u8 c] w fun e w' => e = .returned (.bool true) ∧ RdrS B w' g s' ∧ Below B w0 w' := by
  obtain ⟨out, fld, op, qu⟩ := s
  unfold stp at hs
  by_cases h1 : c = 34
  · rw [if_pos h1] at hs
    obtain rfl := Option.some.inj hs
    obtain ⟨vo, vf, H⟩ := H
    subst h1
    exact (byte_quote B g w0 w vo vf out fld op qu H HB).mono fun e w' ⟨he, hr, hb⟩ => ⟨he, ⟨_, _, hr⟩, hb⟩
  · rw [if_neg h1] at hs
    by_cases h2 : qu = true
    · rw [if_pos h2] at hs
      obtain rfl := Option.some.inj hs
      obtain ⟨vo, vf, H⟩ := H
      subst h2
      exact (byte_quoted B g w0 w vo vf out fld op c h1 hl.2 H HB hBw).mono fun e w' ⟨he, ⟨v1, hr⟩, hb⟩ => ⟨he, ⟨_, _, hr⟩, hb⟩
    · rw [if_neg h2] at hs
      by_cases h3 : c = 35
      · rw [if_pos h3] at hs; cases hs
      · rw [if_neg h3] at hs
        have h2' : qu = false := by simpa using h2
        by_cases h4 : blankB c = true
        · rw [if_pos h4] at hs
          obtain rfl := Option.some.inj hs
          exact byte_blank B g w0 w _ c h1 h3 h4 hl.1 h2' H HB hBw
        · rw [if_neg h4] at hs
          obtain rfl := Option.some.inj hs
          obtain ⟨vo, vf, H⟩ := H
          subst h2'
          exact (byte_else B g w0 w vo vf out fld op c h1 h3 (by simpa using h4) hl.2 H HB hBw).mono fun e w' ⟨he, ⟨v1, hr⟩, hb⟩ => ⟨he, ⟨_, _, hr⟩, hb⟩
theorem byte_no (B g : Nat) (w0 w : World) (s : St) (c : Int) (hs : stp s c = none) (H : RdrS B w g s) :
    Calls Tryd.prog 15 #[.pointer (some ⟨g, 0, none⟩), .int .u8 c] w fun e w' => e = .returned (.bool false) ∧ w' = w := by
  obtain ⟨out, fld, op, qu⟩ := s
  unfold stp at hs
  by_cases h1 : c = 34
  · rw [if_pos h1] at hs; cases hs
  · rw [if_neg h1] at hs
    by_cases h2 : qu = true
    · rw [if_pos h2] at hs; cases hs
    · rw [if_neg h2] at hs
      by_cases h3 : c = 35
      · obtain ⟨vo, vf, H⟩ := H
        have h2' : qu = false := by simpa using h2
        subst h3
        subst h2'
        exact byte_hash B g w w vo vf out fld op H
      · rw [if_neg h3] at hs
        by_cases h4 : blankB c = true
        · rw [if_pos h4] at hs; cases hs
        · rw [if_neg h4] at hs; cases hs
end Go.Proofs.YtmkknigneppneaaDoor.FldR
