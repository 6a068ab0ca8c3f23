/- The row of the law TreeBack: it holds for every input, by Pure.TreeBack and the contract of its printed function. No condition. -/
import Derived.Test.YtdgeokpbedllaaaDoorRows
import Derived.Test.YtdgeokpbedllaaaDoorPTrex20
import Derived.Test.YtdgeokpbedllaaaDoorPureTreeBack
import Derived.Test.YtdgeokpbedllaaaDoorOpen
import Derived.Test.YtdgeokpbedllaaaDoorCard
import Derived.Test.YtdgeokpbedllaaaDoorTie
import Derived.Test.YtdgeokpbedllaaaDoorCards
import Derived.WalkKit
import Derived.ProofKit
import Derived.OpenShut
import Derived.ShutString
import Derived.ChangeOld
import Derived.Below
import Derived.SizedLaws
import Derived.Carry
namespace Go.Proofs.YtdgeokpbedllaaaDoor.treeBack
open Go.ChangeShapes Go.WideShapes Go.ChangeAt Go.RowKit
open Go.ChangeMaps (open_string shut_string)
open Go.Proofs.YtdgeokpbedllaaaDoor.Base Go.Proofs.YtdgeokpbedllaaaDoorW.PrintWords Go.Proofs.YtdgeokpbedllaaaDoor.PTre
set_option linter.unusedVariables false
theorem own : ownKnob Tryd.prog.godebug = none := by kernel_rfl
theorem laidOut : laidOutB Tryd.prog = true := by kernel_rfl
set_option maxRecDepth 100000 in
theorem opens0 : Opens Tryd.prog 22 (Kd.slice 40 k40) (fun x => ∀ y0 ∈ x, (y0.f0.size ≤ maxLen) ∧ (∀ y1 ∈ y0.f1, (y1.f0.size ≤ maxLen) ∧ (∀ y2 ∈ y1.f1, (y2.f0.size ≤ maxLen) ∧ (∀ y3 ∈ y2.f1, y3.size ≤ maxLen)) ∧ (y1.f2.size ≤ maxLen)) ∧ ((Lit.int .i64 y0.f2).wf = true)) := opens_imp (opens_slice Tryd.underlying22 (by kernel_rfl) (opens_iso (d := (Kd.pair Kd.string (Kd.pair (Kd.slice 44 k44) (Kd.int .i64)))) (f := fun x : S40 => (x.f0, x.f1, x.f2)) (fun p => ⟨⟨p.1, p.2.1, p.2.2⟩, rfl⟩) (opens_struct Tryd.underlying40 (by kernel_rfl) (opensF_cons rfl (opens_string Tryd.underlying9 (by kernel_rfl)) (opensF_cons rfl (opens_slice Tryd.underlying38 (by kernel_rfl) (opens_iso (d := (Kd.pair Kd.string (Kd.pair (Kd.slice 70 k70) Kd.string))) (f := fun x : S44 => (x.f0, x.f1, x.f2)) (fun p => ⟨⟨p.1, p.2.1, p.2.2⟩, rfl⟩) (opens_struct Tryd.underlying44 (by kernel_rfl) (opensF_cons rfl (opens_string Tryd.underlying9 (by kernel_rfl)) (opensF_cons rfl (opens_slice Tryd.underlying42 (by kernel_rfl) (opens_iso (d := (Kd.pair Kd.string (Kd.slice 9 Kd.string))) (f := fun x : S70 => (x.f0, x.f1)) (fun p => ⟨⟨p.1, p.2⟩, rfl⟩) (opens_struct Tryd.underlying70 (by kernel_rfl) (opensF_cons rfl (opens_string Tryd.underlying9 (by kernel_rfl)) (opensF_one rfl (opens_slice Tryd.underlying49 (by kernel_rfl) (opens_string Tryd.underlying9 (by kernel_rfl)))))))) (opensF_one rfl (opens_string Tryd.underlying9 (by kernel_rfl)))))))) (opensF_one rfl (opens_int (k := .i64) Tryd.underlying3 (by kernel_rfl)))))))) (fun _ h => h)
set_option maxRecDepth 100000 in
theorem opens1 : Opens Tryd.prog 22 (Kd.slice 40 k40) (fun x => ∀ y0 ∈ x, (y0.f0.size ≤ maxLen) ∧ (∀ y1 ∈ y0.f1, (y1.f0.size ≤ maxLen) ∧ (∀ y2 ∈ y1.f1, (y2.f0.size ≤ maxLen) ∧ (∀ y3 ∈ y2.f1, y3.size ≤ maxLen)) ∧ (y1.f2.size ≤ maxLen)) ∧ ((Lit.int .i64 y0.f2).wf = true)) := opens_imp (opens_slice Tryd.underlying22 (by kernel_rfl) (opens_iso (d := (Kd.pair Kd.string (Kd.pair (Kd.slice 44 k44) (Kd.int .i64)))) (f := fun x : S40 => (x.f0, x.f1, x.f2)) (fun p => ⟨⟨p.1, p.2.1, p.2.2⟩, rfl⟩) (opens_struct Tryd.underlying40 (by kernel_rfl) (opensF_cons rfl (opens_string Tryd.underlying9 (by kernel_rfl)) (opensF_cons rfl (opens_slice Tryd.underlying38 (by kernel_rfl) (opens_iso (d := (Kd.pair Kd.string (Kd.pair (Kd.slice 70 k70) Kd.string))) (f := fun x : S44 => (x.f0, x.f1, x.f2)) (fun p => ⟨⟨p.1, p.2.1, p.2.2⟩, rfl⟩) (opens_struct Tryd.underlying44 (by kernel_rfl) (opensF_cons rfl (opens_string Tryd.underlying9 (by kernel_rfl)) (opensF_cons rfl (opens_slice Tryd.underlying42 (by kernel_rfl) (opens_iso (d := (Kd.pair Kd.string (Kd.slice 9 Kd.string))) (f := fun x : S70 => (x.f0, x.f1)) (fun p => ⟨⟨p.1, p.2⟩, rfl⟩) (opens_struct Tryd.underlying70 (by kernel_rfl) (opensF_cons rfl (opens_string Tryd.underlying9 (by kernel_rfl)) (opensF_one rfl (opens_slice Tryd.underlying49 (by kernel_rfl) (opens_string Tryd.underlying9 (by kernel_rfl)))))))) (opensF_one rfl (opens_string Tryd.underlying9 (by kernel_rfl)))))))) (opensF_one rfl (opens_int (k := .i64) Tryd.underlying3 (by kernel_rfl)))))))) (fun _ h => h)
set_option maxRecDepth 100000 in
theorem lifted (os : Os) (started : os.Started) (H : Type) (enc : TypeId × Value → H) :
    ReturnsInHanded {} Tryd.checked os 4 .any (fun w args => (Rows.treeBackSpec.pre enc Tryd.prog Tryd.f4 Rows.treeBackRow.domain false w args ∧ laidMetH Tryd.prog Rows.treeBackRow.laid w) ∧ sizedMet enc Tryd.prog Tryd.f4 (OpenSpec.ofChange Rows.treeBackSpec) false w args)
      (Rows.treeBackSpec.post enc Tryd.prog Tryd.f4 false true false false) := by
  refine card_wrap (C := Tryd.checked) (X := fun w _ => laidMetH Tryd.prog Rows.treeBackRow.laid w) (fun _ _ _ hh h => h.of_heap hh) own started (by kernel_rfl) Tryd.func4
    (ChangeSpec.witness_shaped (enc := enc) (C := Tryd.checked) (os := os) (X := fun w _ => laidMetH Tryd.prog Rows.treeBackRow.laid w) false (World.laidAll Tryd.prog os Rows.treeBackRow.laid) #[.slice none 0 0, .slice none 0 0] 8 (World.laidAll_os _ _ _)
      (World.shaped_of_ZipB (by kernel_rfl) (by kernel_rfl)) (by kernel_rfl) (by kernel_rfl) (by kernel_rfl)
      (by rw [MakeChecks.laidMetH_plain _ _ _ (by kernel_rfl)]; exact laidMet_laidAll _ (by kernel_rfl) (by kernel_rfl))) ?_
  intro W base args ds gs before hval0 hW hcnd hsz0 hL hS _
  rw [MakeChecks.laidMetH_plain _ _ _ (by kernel_rfl)] at hL
  have hG : GP W := max_of_shape hS
  have hsz : (DataW.weightsEach Tryd.prog (Tryd.f4.params.toList ++ Rows.treeBackSpec.plain.varTypes Tryd.prog) (ds ++ gs)).all (· ≤ reachBytes) = true := hsz0
  have hval : ∀ (j : Nat) t v, Tryd.f4.params[j]? = some t → args[j]? = some v → Value.okWide Tryd.prog W .any base t v := hval0
  have hW' := hW
  obtain ⟨p, q, hA0, hV, rfl, hfz, hnd⟩ := hW
  have hA : DataW.TrodAll enc Tryd.prog W 0 (fun _ => true) true Tryd.f4.params.toList args.toList ds p := hA0
  rw [Tryd.params4] at hA hval hsz
  obtain ⟨v0, vs0, d0, ds0, p0, q0, hargs, rfl, rfl, h0, r0⟩ := trodAll_cons hA
  obtain ⟨v1, vs1, d1, ds1, p1, q1, rfl, rfl, rfl, h1, r1⟩ := trodAll_cons r0
  obtain ⟨rfl, rfl, rfl⟩ := trodAll_nil r1
  obtain rfl : args = #[v0, v1] := by cases args; simp_all
  obtain ⟨rfl, rfl⟩ := trodVars_none hV
  have k0 := h0
  have lt0 : ∀ x ∈ p0, x.block < W.heap.size := by obtain ⟨m, hm⟩ := k0; exact DataW.trod_lt m _ _ _ hm
  obtain ⟨a0, len0, cap0, rfl⟩ := okWide_slice Tryd.underlying22 (hval 0 22 v0 rfl rfl)
  obtain ⟨fuel0, hf0⟩ := h0
  obtain ⟨l0, ⟨A0, c0, hcs0, hl0, hC0⟩, hQ0⟩ := opens0.2 hf0
  have hcs0' : Value.slice a0 len0 cap0 = .slice A0 l0.length c0 := by simpa [Value.cells] using hcs0
  obtain ⟨rfl, rfl, rfl⟩ := Value.slice.inj hcs0'
  have k1 := h1
  have lt1 : ∀ x ∈ p1, x.block < W.heap.size := by obtain ⟨m, hm⟩ := k1; exact DataW.trod_lt m _ _ _ hm
  obtain ⟨a1, len1, cap1, rfl⟩ := okWide_slice Tryd.underlying22 (hval 1 22 v1 rfl rfl)
  obtain ⟨fuel1, hf1⟩ := h1
  obtain ⟨l1, ⟨A1, c1, hcs1, hl1, hC1⟩, hQ1⟩ := opens1.2 hf1
  have hcs1' : Value.slice a1 len1 cap1 = .slice A1 l1.length c1 := by simpa [Value.cells] using hcs1
  obtain ⟨rfl, rfl, rfl⟩ := Value.slice.inj hcs1'
  clear hA0 hval0 hsz0 hsz
  obtain ⟨k, hp⟩ := Pure.TreeBack l0 l1 hQ0 hQ1
  refine (solsticelaw19_TreeBack.calls k _ _ l0 _ _ l1 true rfl W hC0 hl0 hC1 hl1 hG hp).mono fun e W' ⟨he, bel0⟩ => ?_
  have bel : Below W.heap.size W W' := bel0
  subst he
  exact ⟨_, rfl, _, _, _, [], _, [], hW', trodAll_mk1 (shut_bool Tryd.underlying4 _), (trodAll_cons_mk (Below.trod laidOut (by kernel_rfl) (of_decide_eq_true (by kernel_rfl)) k0 bel lt0) (trodAll_cons_mk (Below.trod laidOut (by kernel_rfl) (of_decide_eq_true (by kernel_rfl)) k1 bel lt1) trodAll_mk0)), rfl, bel.frame _, fun h => by cases h⟩
theorem over : Rows.treeBackRow.holds Tryd.pinned (OpenSpec.ofChange Rows.treeBackSpec) :=
  OpenClaim.holds_of_wide 4 Tryd.f4 rfl rfl rfl rfl rfl rfl rfl ⟨rfl, rfl, rfl, rfl, rfl⟩ rfl rfl rfl rfl rfl (by kernel_rfl) Tryd.func4 (by kernel_rfl)
    (of_decide_eq_true (by kernel_rfl)) (by unfold Func.isWrapper; first | (rw [if_pos (by decide +kernel)]; kernel_rfl) | (rw [if_neg (by decide +kernel)]; exact ⟨rfl, rfl⟩))
    (fun os started H enc _ => lifted os started H enc)
theorem proved : Rows.TreeBackSaid := over
#print axioms proved
end Go.Proofs.YtdgeokpbedllaaaDoor.treeBack
namespace Go.Proofs.YtdgeokpbedllaaaDoor
/-- The row, under a short name, for the claim. -/
theorem treeBack_holds : Rows.TreeBackSaid := treeBack.proved
/-- THE TIED CARD. -/
theorem treeBack_card_holds : Rows.TreeBackCardSaid :=
  Claim7.holds_tied_plain_at .later [] [.data, .pinned] true (true, "ebb0ca4a290177d1f8120b6c6347517510dc382adffbcf0ef5c628beaf1c7c96") false
    treeBack_holds (fun _ h => by cases h) (by kernel_rfl) (fun _ h => by cases h) treeBack_row_tie rfl ⟨rfl, rfl⟩ (by kernel_rfl) rfl
    (fun f fn hf hfn => by
      obtain rfl : f = 4 := Option.some.inj ((show Tryd.prog.funcNamed "solstice/solsticelaw19.TreeBack" = some 4 by kernel_rfl).symm.trans hf) |>.symm
      obtain rfl : fn = Tryd.f4 := (Option.some.inj (Tryd.func4.symm.trans hfn)).symm
      exact ⟨by kernel_rfl, fun j t ht => by
        rw [Tryd.params4] at ht
        have hm : t ∈ [22, 22] := by have := Array.mem_of_getElem? ht; simpa using this
        have hall : ([22, 22].all fun u => !Tryd.prog.wantsStandIn u) = true := by kernel_rfl
        exact (show Tryd.prog.wantsStandIn t = false by simpa using List.all_eq_true.1 hall t hm)⟩)
    (by kernel_rfl)
#print axioms treeBack_card_holds
end Go.Proofs.YtdgeokpbedllaaaDoor
