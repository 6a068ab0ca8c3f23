/- The row of the law RecurBack: it holds for every input, by the walk of its function. No condition. -/
import Derived.Test.YtjanombhdnoemaaGreatDoorRows
import Derived.Test.YtjanombhdnoemaaGreatDoorRecZb
import Derived.Test.YtjanombhdnoemaaGreatDoorOpen
import Derived.Test.YtjanombhdnoemaaGreatDoorCard
import Derived.Test.YtjanombhdnoemaaGreatDoorTie
import Derived.Test.YtjanombhdnoemaaGreatDoorCards
import Derived.WalkKit
import Derived.ProofKit
import Derived.OpenShut
import Derived.ShutString
import Derived.ChangeOld
import Derived.Below
import Derived.SizedLaws
import Derived.Carry
namespace Go.Proofs.YtjanombhdnoemaaGreatDoor.recurBack
open Go.ChangeShapes Go.WideShapes Go.ChangeAt Go.RowKit
open Go.ChangeMaps (open_string shut_string)
open Go.Proofs.YtjanombhdnoemaaGreatDoor.Base Go.Proofs.YtjanombhdnoemaaGreatDoorW.PrintWords Go.Proofs.YtjanombhdnoemaaGreatDoor.PRec
set_option linter.unusedVariables false
theorem own : ownKnob Tryz.prog.godebug = none := by kernel_rfl
theorem laidOut : laidOutB Tryz.prog = true := by kernel_rfl
set_option maxRecDepth 100000 in
theorem opens0 : Opens Tryz.prog 25 (Kd.pair (Kd.int .i64) (Kd.pair (Kd.int .i64) (Kd.pair (Kd.int .i64) (Kd.pair Kd.bool (Kd.pair (Kd.int .i64) (Kd.pair Kd.bool (Kd.pair (Kd.slice 3 (Kd.int .i64)) (Kd.pair (Kd.slice 3 (Kd.int .i64)) (Kd.pair (Kd.slice 3 (Kd.int .i64)) (Kd.pair (Kd.slice 38 k38) (Kd.pair (Kd.slice 3 (Kd.int .i64)) (Kd.pair (Kd.slice 3 (Kd.int .i64)) (Kd.pair (Kd.slice 3 (Kd.int .i64)) (Kd.pair (Kd.slice 3 (Kd.int .i64)) (Kd.pair (Kd.slice 3 (Kd.int .i64)) (Kd.int .i64)))))))))))))))) (fun x => ((Lit.int .i64 x.1).wf = true) ∧ ((Lit.int .i64 x.2.1).wf = true) ∧ ((Lit.int .i64 x.2.2.1).wf = true) ∧ (True) ∧ ((Lit.int .i64 x.2.2.2.2.1).wf = true) ∧ (True) ∧ (∀ y0 ∈ x.2.2.2.2.2.2.1, (Lit.int .i64 y0).wf = true) ∧ (∀ y0 ∈ x.2.2.2.2.2.2.2.1, (Lit.int .i64 y0).wf = true) ∧ (∀ y0 ∈ x.2.2.2.2.2.2.2.2.1, (Lit.int .i64 y0).wf = true) ∧ (∀ y0 ∈ x.2.2.2.2.2.2.2.2.2.1, ((Lit.int .i64 y0.f0).wf = true) ∧ ((Lit.int .i64 y0.f1).wf = true)) ∧ (∀ y0 ∈ x.2.2.2.2.2.2.2.2.2.2.1, (Lit.int .i64 y0).wf = true) ∧ (∀ y0 ∈ x.2.2.2.2.2.2.2.2.2.2.2.1, (Lit.int .i64 y0).wf = true) ∧ (∀ y0 ∈ x.2.2.2.2.2.2.2.2.2.2.2.2.1, (Lit.int .i64 y0).wf = true) ∧ (∀ y0 ∈ x.2.2.2.2.2.2.2.2.2.2.2.2.2.1, (Lit.int .i64 y0).wf = true) ∧ (∀ y0 ∈ x.2.2.2.2.2.2.2.2.2.2.2.2.2.2.1, (Lit.int .i64 y0).wf = true) ∧ ((Lit.int .i64 x.2.2.2.2.2.2.2.2.2.2.2.2.2.2.2).wf = true)) := opens_imp (opens_struct Tryz.underlying25 (by kernel_rfl) (opensF_cons rfl (opens_int (k := .i64) Tryz.underlying3 (by kernel_rfl)) (opensF_cons rfl (opens_int (k := .i64) Tryz.underlying3 (by kernel_rfl)) (opensF_cons rfl (opens_int (k := .i64) Tryz.underlying3 (by kernel_rfl)) (opensF_cons rfl (opens_bool Tryz.underlying4 (by kernel_rfl)) (opensF_cons rfl (opens_int (k := .i64) Tryz.underlying3 (by kernel_rfl)) (opensF_cons rfl (opens_bool Tryz.underlying4 (by kernel_rfl)) (opensF_cons rfl (opens_slice Tryz.underlying22 (by kernel_rfl) (opens_int (k := .i64) Tryz.underlying3 (by kernel_rfl))) (opensF_cons rfl (opens_slice Tryz.underlying22 (by kernel_rfl) (opens_int (k := .i64) Tryz.underlying3 (by kernel_rfl))) (opensF_cons rfl (opens_slice Tryz.underlying22 (by kernel_rfl) (opens_int (k := .i64) Tryz.underlying3 (by kernel_rfl))) (opensF_cons rfl (opens_slice Tryz.underlying23 (by kernel_rfl) (opens_iso (d := (Kd.pair (Kd.int .i64) (Kd.int .i64))) (f := fun x : S38 => (x.f0, x.f1)) (fun p => ⟨⟨p.1, p.2⟩, rfl⟩) (opens_struct Tryz.underlying38 (by kernel_rfl) (opensF_cons rfl (opens_int (k := .i64) Tryz.underlying3 (by kernel_rfl)) (opensF_one rfl (opens_int (k := .i64) Tryz.underlying3 (by kernel_rfl))))))) (opensF_cons rfl (opens_slice Tryz.underlying22 (by kernel_rfl) (opens_int (k := .i64) Tryz.underlying3 (by kernel_rfl))) (opensF_cons rfl (opens_slice Tryz.underlying22 (by kernel_rfl) (opens_int (k := .i64) Tryz.underlying3 (by kernel_rfl))) (opensF_cons rfl (opens_slice Tryz.underlying22 (by kernel_rfl) (opens_int (k := .i64) Tryz.underlying3 (by kernel_rfl))) (opensF_cons rfl (opens_slice Tryz.underlying22 (by kernel_rfl) (opens_int (k := .i64) Tryz.underlying3 (by kernel_rfl))) (opensF_cons rfl (opens_slice Tryz.underlying22 (by kernel_rfl) (opens_int (k := .i64) Tryz.underlying3 (by kernel_rfl))) (opensF_one rfl (opens_int (k := .i64) Tryz.underlying3 (by kernel_rfl))))))))))))))))))) (fun _ h => h)
set_option maxRecDepth 100000 in
theorem opens1 : Opens Tryz.prog 25 (Kd.pair (Kd.int .i64) (Kd.pair (Kd.int .i64) (Kd.pair (Kd.int .i64) (Kd.pair Kd.bool (Kd.pair (Kd.int .i64) (Kd.pair Kd.bool (Kd.pair (Kd.slice 3 (Kd.int .i64)) (Kd.pair (Kd.slice 3 (Kd.int .i64)) (Kd.pair (Kd.slice 3 (Kd.int .i64)) (Kd.pair (Kd.slice 38 k38) (Kd.pair (Kd.slice 3 (Kd.int .i64)) (Kd.pair (Kd.slice 3 (Kd.int .i64)) (Kd.pair (Kd.slice 3 (Kd.int .i64)) (Kd.pair (Kd.slice 3 (Kd.int .i64)) (Kd.pair (Kd.slice 3 (Kd.int .i64)) (Kd.int .i64)))))))))))))))) (fun x => ((Lit.int .i64 x.1).wf = true) ∧ ((Lit.int .i64 x.2.1).wf = true) ∧ ((Lit.int .i64 x.2.2.1).wf = true) ∧ (True) ∧ ((Lit.int .i64 x.2.2.2.2.1).wf = true) ∧ (True) ∧ (∀ y0 ∈ x.2.2.2.2.2.2.1, (Lit.int .i64 y0).wf = true) ∧ (∀ y0 ∈ x.2.2.2.2.2.2.2.1, (Lit.int .i64 y0).wf = true) ∧ (∀ y0 ∈ x.2.2.2.2.2.2.2.2.1, (Lit.int .i64 y0).wf = true) ∧ (∀ y0 ∈ x.2.2.2.2.2.2.2.2.2.1, ((Lit.int .i64 y0.f0).wf = true) ∧ ((Lit.int .i64 y0.f1).wf = true)) ∧ (∀ y0 ∈ x.2.2.2.2.2.2.2.2.2.2.1, (Lit.int .i64 y0).wf = true) ∧ (∀ y0 ∈ x.2.2.2.2.2.2.2.2.2.2.2.1, (Lit.int .i64 y0).wf = true) ∧ (∀ y0 ∈ x.2.2.2.2.2.2.2.2.2.2.2.2.1, (Lit.int .i64 y0).wf = true) ∧ (∀ y0 ∈ x.2.2.2.2.2.2.2.2.2.2.2.2.2.1, (Lit.int .i64 y0).wf = true) ∧ (∀ y0 ∈ x.2.2.2.2.2.2.2.2.2.2.2.2.2.2.1, (Lit.int .i64 y0).wf = true) ∧ ((Lit.int .i64 x.2.2.2.2.2.2.2.2.2.2.2.2.2.2.2).wf = true)) := opens_imp (opens_struct Tryz.underlying25 (by kernel_rfl) (opensF_cons rfl (opens_int (k := .i64) Tryz.underlying3 (by kernel_rfl)) (opensF_cons rfl (opens_int (k := .i64) Tryz.underlying3 (by kernel_rfl)) (opensF_cons rfl (opens_int (k := .i64) Tryz.underlying3 (by kernel_rfl)) (opensF_cons rfl (opens_bool Tryz.underlying4 (by kernel_rfl)) (opensF_cons rfl (opens_int (k := .i64) Tryz.underlying3 (by kernel_rfl)) (opensF_cons rfl (opens_bool Tryz.underlying4 (by kernel_rfl)) (opensF_cons rfl (opens_slice Tryz.underlying22 (by kernel_rfl) (opens_int (k := .i64) Tryz.underlying3 (by kernel_rfl))) (opensF_cons rfl (opens_slice Tryz.underlying22 (by kernel_rfl) (opens_int (k := .i64) Tryz.underlying3 (by kernel_rfl))) (opensF_cons rfl (opens_slice Tryz.underlying22 (by kernel_rfl) (opens_int (k := .i64) Tryz.underlying3 (by kernel_rfl))) (opensF_cons rfl (opens_slice Tryz.underlying23 (by kernel_rfl) (opens_iso (d := (Kd.pair (Kd.int .i64) (Kd.int .i64))) (f := fun x : S38 => (x.f0, x.f1)) (fun p => ⟨⟨p.1, p.2⟩, rfl⟩) (opens_struct Tryz.underlying38 (by kernel_rfl) (opensF_cons rfl (opens_int (k := .i64) Tryz.underlying3 (by kernel_rfl)) (opensF_one rfl (opens_int (k := .i64) Tryz.underlying3 (by kernel_rfl))))))) (opensF_cons rfl (opens_slice Tryz.underlying22 (by kernel_rfl) (opens_int (k := .i64) Tryz.underlying3 (by kernel_rfl))) (opensF_cons rfl (opens_slice Tryz.underlying22 (by kernel_rfl) (opens_int (k := .i64) Tryz.underlying3 (by kernel_rfl))) (opensF_cons rfl (opens_slice Tryz.underlying22 (by kernel_rfl) (opens_int (k := .i64) Tryz.underlying3 (by kernel_rfl))) (opensF_cons rfl (opens_slice Tryz.underlying22 (by kernel_rfl) (opens_int (k := .i64) Tryz.underlying3 (by kernel_rfl))) (opensF_cons rfl (opens_slice Tryz.underlying22 (by kernel_rfl) (opens_int (k := .i64) Tryz.underlying3 (by kernel_rfl))) (opensF_one rfl (opens_int (k := .i64) Tryz.underlying3 (by kernel_rfl))))))))))))))))))) (fun _ h => h)
set_option maxRecDepth 100000 in
theorem lifted (os : Os) (started : os.Started) (H : Type) (enc : TypeId × Value → H) :
    ReturnsInHanded {} Tryz.checked os 6 .any (fun w args => (Rows.recurBackSpec.pre enc Tryz.prog Tryz.f6 Rows.recurBackRow.domain false w args ∧ laidMetH Tryz.prog Rows.recurBackRow.laid w) ∧ sizedMet enc Tryz.prog Tryz.f6 (OpenSpec.ofChange Rows.recurBackSpec) false w args)
      (Rows.recurBackSpec.post enc Tryz.prog Tryz.f6 false true false false) := by
  refine card_wrap (C := Tryz.checked) (X := fun w _ => laidMetH Tryz.prog Rows.recurBackRow.laid w) (fun _ _ _ hh h => h.of_heap hh) own started (by kernel_rfl) Tryz.func6
    (ChangeSpec.witness_shaped (enc := enc) (C := Tryz.checked) (os := os) (X := fun w _ => laidMetH Tryz.prog Rows.recurBackRow.laid w) false (World.laidAll Tryz.prog os Rows.recurBackRow.laid) #[.agg #[.int .i64 0, .int .i64 0, .int .i64 0, .bool false, .int .i64 0, .bool false, .slice none 0 0, .slice none 0 0, .slice none 0 0, .slice none 0 0, .slice none 0 0, .slice none 0 0, .slice none 0 0, .slice none 0 0, .slice none 0 0, .int .i64 0], .agg #[.int .i64 0, .int .i64 0, .int .i64 0, .bool false, .int .i64 0, .bool false, .slice none 0 0, .slice none 0 0, .slice none 0 0, .slice none 0 0, .slice none 0 0, .slice none 0 0, .slice none 0 0, .slice none 0 0, .slice none 0 0, .int .i64 0], .string ByteArray.empty] 8 (World.laidAll_os _ _ _)
      (World.shaped_of_ZipB (by kernel_rfl) (by kernel_rfl)) (by kernel_rfl) (by kernel_rfl) (by kernel_rfl)
      (by rw [MakeChecks.laidMetH_plain _ _ _ (by kernel_rfl)]; exact laidMet_laidAll _ (by kernel_rfl) (by kernel_rfl))) ?_
  intro W base args ds gs before hval0 hW hcnd hsz0 hL hS _
  rw [MakeChecks.laidMetH_plain _ _ _ (by kernel_rfl)] at hL
  have hsz : (DataW.weightsEach Tryz.prog (Tryz.f6.params.toList ++ Rows.recurBackSpec.plain.varTypes Tryz.prog) (ds ++ gs)).all (· ≤ reachBytes) = true := hsz0
  have hval : ∀ (j : Nat) t v, Tryz.f6.params[j]? = some t → args[j]? = some v → Value.okWide Tryz.prog W .any base t v := hval0
  have hW' := hW
  obtain ⟨p, q, hA0, hV, rfl, hfz, hnd⟩ := hW
  have hA : DataW.TrodAll enc Tryz.prog W 0 (fun _ => true) true Tryz.f6.params.toList args.toList ds p := hA0
  rw [Tryz.params6] at hA hval hsz
  obtain ⟨v0, vs0, d0, ds0, p0, q0, hargs, rfl, rfl, h0, r0⟩ := trodAll_cons hA
  obtain ⟨v1, vs1, d1, ds1, p1, q1, rfl, rfl, rfl, h1, r1⟩ := trodAll_cons r0
  obtain ⟨v2, vs2, d2, ds2, p2, q2, rfl, rfl, rfl, h2, r2⟩ := trodAll_cons r1
  obtain ⟨rfl, rfl, rfl⟩ := trodAll_nil r2
  obtain rfl : args = #[v0, v1, v2] := by cases args; simp_all
  obtain ⟨rfl, rfl⟩ := trodVars_none hV
  have k0 := h0
  have lt0 : ∀ x ∈ p0, x.block < W.heap.size := by obtain ⟨m, hm⟩ := k0; exact DataW.trod_lt m _ _ _ hm
  obtain ⟨agg0, rfl⟩ := okWide_agg Tryz.underlying25 (hval 0 25 v0 rfl rfl)
  obtain ⟨fuel0, hf0⟩ := h0
  obtain ⟨⟨x0_0, x0_1, x0_2, x0_3, x0_4, x0_5, x0_6, x0_7, x0_8, x0_9, x0_10, x0_11, x0_12, x0_13, x0_14, x0_15⟩, ⟨_, _, hcs0, rfl, ⟨_, _, rfl, rfl, ⟨_, _, rfl, rfl, ⟨_, _, rfl, rfl, ⟨_, _, rfl, rfl, ⟨_, _, rfl, rfl, ⟨_, _, rfl, ⟨A0_6, c0_6, rfl, hl0_6, hC0_6⟩, ⟨_, _, rfl, ⟨A0_7, c0_7, rfl, hl0_7, hC0_7⟩, ⟨_, _, rfl, ⟨A0_8, c0_8, rfl, hl0_8, hC0_8⟩, ⟨_, _, rfl, ⟨A0_9, c0_9, rfl, hl0_9, hC0_9⟩, ⟨_, _, rfl, ⟨A0_10, c0_10, rfl, hl0_10, hC0_10⟩, ⟨_, _, rfl, ⟨A0_11, c0_11, rfl, hl0_11, hC0_11⟩, ⟨_, _, rfl, ⟨A0_12, c0_12, rfl, hl0_12, hC0_12⟩, ⟨_, _, rfl, ⟨A0_13, c0_13, rfl, hl0_13, hC0_13⟩, ⟨_, _, rfl, ⟨A0_14, c0_14, rfl, hl0_14, hC0_14⟩, rfl⟩⟩⟩⟩⟩⟩⟩⟩⟩⟩⟩⟩⟩⟩⟩, hQ0⟩ := opens0.2 hf0
  obtain rfl : agg0 = #[.int .i64 x0_0, .int .i64 x0_1, .int .i64 x0_2, .bool x0_3, .int .i64 x0_4, .bool x0_5, .slice A0_6 x0_6.length c0_6, .slice A0_7 x0_7.length c0_7, .slice A0_8 x0_8.length c0_8, .slice A0_9 x0_9.length c0_9, .slice A0_10 x0_10.length c0_10, .slice A0_11 x0_11.length c0_11, .slice A0_12 x0_12.length c0_12, .slice A0_13 x0_13.length c0_13, .slice A0_14 x0_14.length c0_14, .int .i64 x0_15] := Array.toList_inj.1 (by simpa [Value.cells] using hcs0)
  have k1 := h1
  have lt1 : ∀ x ∈ p1, x.block < W.heap.size := by obtain ⟨m, hm⟩ := k1; exact DataW.trod_lt m _ _ _ hm
  obtain ⟨agg1, rfl⟩ := okWide_agg Tryz.underlying25 (hval 1 25 v1 rfl rfl)
  obtain ⟨fuel1, hf1⟩ := h1
  obtain ⟨⟨x1_0, x1_1, x1_2, x1_3, x1_4, x1_5, x1_6, x1_7, x1_8, x1_9, x1_10, x1_11, x1_12, x1_13, x1_14, x1_15⟩, ⟨_, _, hcs1, rfl, ⟨_, _, rfl, rfl, ⟨_, _, rfl, rfl, ⟨_, _, rfl, rfl, ⟨_, _, rfl, rfl, ⟨_, _, rfl, rfl, ⟨_, _, rfl, ⟨A1_6, c1_6, rfl, hl1_6, hC1_6⟩, ⟨_, _, rfl, ⟨A1_7, c1_7, rfl, hl1_7, hC1_7⟩, ⟨_, _, rfl, ⟨A1_8, c1_8, rfl, hl1_8, hC1_8⟩, ⟨_, _, rfl, ⟨A1_9, c1_9, rfl, hl1_9, hC1_9⟩, ⟨_, _, rfl, ⟨A1_10, c1_10, rfl, hl1_10, hC1_10⟩, ⟨_, _, rfl, ⟨A1_11, c1_11, rfl, hl1_11, hC1_11⟩, ⟨_, _, rfl, ⟨A1_12, c1_12, rfl, hl1_12, hC1_12⟩, ⟨_, _, rfl, ⟨A1_13, c1_13, rfl, hl1_13, hC1_13⟩, ⟨_, _, rfl, ⟨A1_14, c1_14, rfl, hl1_14, hC1_14⟩, rfl⟩⟩⟩⟩⟩⟩⟩⟩⟩⟩⟩⟩⟩⟩⟩, hQ1⟩ := opens1.2 hf1
  obtain rfl : agg1 = #[.int .i64 x1_0, .int .i64 x1_1, .int .i64 x1_2, .bool x1_3, .int .i64 x1_4, .bool x1_5, .slice A1_6 x1_6.length c1_6, .slice A1_7 x1_7.length c1_7, .slice A1_8 x1_8.length c1_8, .slice A1_9 x1_9.length c1_9, .slice A1_10 x1_10.length c1_10, .slice A1_11 x1_11.length c1_11, .slice A1_12 x1_12.length c1_12, .slice A1_13 x1_13.length c1_13, .slice A1_14 x1_14.length c1_14, .int .i64 x1_15] := Array.toList_inj.1 (by simpa [Value.cells] using hcs1)
  obtain ⟨a2, rfl, rfl, rfl, y2⟩ := open_string Tryz.underlying9 (hval 2 9 v2 rfl rfl) h2
  have w2 : a2.size ≤ 140737488351232 := by
    have z := sized_string hsz (j := 2) (t := 9) rfl rfl
    rw [Array.length_toList] at z
    exact z
  clear hA0 hval0 hsz0 hsz
  have e10 : (Rows.laid_internal_strconv_uint64pow10 : DataW Unit) = Lib.tabData .u64 Lib.pow10Tab := by kernel_rfl
  have hG : GP W := ⟨pow10_of_reads (e10 ▸ Lib.laidMet.reads hL (.tail _ (.tail _ (.head _)))), max_of_shape hS⟩
  refine (rb_calls x0_0 x0_1 x0_2 x0_3 x0_4 x0_5 _ _ x0_6 _ _ x0_7 _ _ x0_8 _ _ x0_9 _ _ x0_10 _ _ x0_11 _ _ x0_12 _ _ x0_13 _ _ x0_14 x0_15 x1_0 x1_1 x1_2 x1_3 x1_4 x1_5 _ _ x1_6 _ _ x1_7 _ _ x1_8 _ _ x1_9 _ _ x1_10 _ _ x1_11 _ _ x1_12 _ _ x1_13 _ _ x1_14 x1_15 a2 hQ0 hQ1 W hG hC0_6 hl0_6 hC0_7 hl0_7 hC0_8 hl0_8 hC0_9 hl0_9 hC0_10 hl0_10 hC0_11 hl0_11 hC0_12 hl0_12 hC0_13 hl0_13 hC0_14 hl0_14 hC1_6 hl1_6 hC1_7 hl1_7 hC1_8 hl1_8 hC1_9 hl1_9 hC1_10 hl1_10 hC1_11 hl1_11 hC1_12 hl1_12 hC1_13 hl1_13 hC1_14 hl1_14).mono fun e W' ⟨he, bel0⟩ => ?_
  have bel : Below W.heap.size W W' := bel0
  subst he
  exact ⟨_, rfl, _, _, _, [], _, [], hW', trodAll_mk1 (shut_bool Tryz.underlying4 _), (trodAll_cons_mk (Below.trod laidOut (by kernel_rfl) (of_decide_eq_true (by kernel_rfl)) k0 bel lt0) (trodAll_cons_mk (Below.trod laidOut (by kernel_rfl) (of_decide_eq_true (by kernel_rfl)) k1 bel lt1) (trodAll_cons_mk (shut_string Tryz.underlying9 y2) trodAll_mk0))), rfl, bel.frame _, fun h => by cases h⟩
theorem over : Rows.recurBackRow.holds Tryz.pinned (OpenSpec.ofChange Rows.recurBackSpec) :=
  OpenClaim.holds_of_wide 6 Tryz.f6 rfl rfl rfl rfl rfl rfl rfl ⟨rfl, rfl, rfl, rfl, rfl⟩ rfl rfl rfl rfl rfl (by kernel_rfl) Tryz.func6 (by kernel_rfl)
    (of_decide_eq_true (by kernel_rfl)) (by unfold Func.isWrapper; first | (rw [if_pos (by decide +kernel)]; kernel_rfl) | (rw [if_neg (by decide +kernel)]; exact ⟨rfl, rfl⟩))
    (fun os started H enc _ => lifted os started H enc)
theorem proved : Rows.RecurBackSaid := over
#print axioms proved
end Go.Proofs.YtjanombhdnoemaaGreatDoor.recurBack
namespace Go.Proofs.YtjanombhdnoemaaGreatDoor
/-- The row, under a short name, for the claim. -/
theorem recurBack_holds : Rows.RecurBackSaid := recurBack.proved
/-- THE TIED CARD. -/
theorem recurBack_card_holds : Rows.RecurBackCardSaid :=
  Claim7.holds_tied_plain_at .later [] [.data, .data, .data, .data, .pinned] true (true, "cbdf0e57292c50df36f7383d2aef35c37b4479cff7a2606023581abebdaab4ac") false
    recurBack_holds (fun _ h => by cases h) (by kernel_rfl) (fun _ h => by cases h) recurBack_row_tie rfl ⟨rfl, rfl⟩ (by kernel_rfl) rfl
    (fun f fn hf hfn => by
      obtain rfl : f = 6 := Option.some.inj ((show Tryz.prog.funcNamed "solstice/solsticelaw21.RecurBack" = some 6 by kernel_rfl).symm.trans hf) |>.symm
      obtain rfl : fn = Tryz.f6 := (Option.some.inj (Tryz.func6.symm.trans hfn)).symm
      exact ⟨by kernel_rfl, fun j t ht => by
        rw [Tryz.params6] at ht
        have hm : t ∈ [25, 25, 9] := by have := Array.mem_of_getElem? ht; simpa using this
        have hall : ([25, 25, 9].all fun u => !Tryz.prog.wantsStandIn u) = true := by kernel_rfl
        exact (show Tryz.prog.wantsStandIn t = false by simpa using List.all_eq_true.1 hall t hm)⟩)
    (by kernel_rfl)
#print axioms recurBack_card_holds
end Go.Proofs.YtjanombhdnoemaaGreatDoor
