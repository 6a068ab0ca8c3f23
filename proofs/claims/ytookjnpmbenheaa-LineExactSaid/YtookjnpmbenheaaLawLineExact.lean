/- The row of the law LineExact: it holds for every input, by Pure.LineExact and the contract of its printed function. No condition. -/
import Derived.Test.YtookjnpmbenheaaRows
import Derived.Test.YtookjnpmbenheaaPLinx13
import Derived.Test.YtookjnpmbenheaaPureLineExact
import Derived.Test.YtookjnpmbenheaaOpen
import Derived.WalkKit
import Derived.ProofKit
import Derived.OpenShut
import Derived.ShutString
import Derived.ChangeOld
import Derived.Below
import Derived.SizedLaws
import Derived.Carry
namespace Go.Proofs.Ytookjnpmbenheaa.lineExact
open Go.ChangeShapes Go.WideShapes Go.ChangeAt Go.RowKit
open Go.ChangeMaps (open_string shut_string)
open Go.Proofs.Ytookjnpmbenheaa.Base Go.Proofs.YtookjnpmbenheaaW.PrintWords Go.Proofs.Ytookjnpmbenheaa.PLin
set_option linter.unusedVariables false
theorem own : ownKnob Try.prog.godebug = none := by kernel_rfl
theorem laidOut : laidOutB Try.prog = true := by kernel_rfl
set_option maxRecDepth 100000 in
theorem opens0 : Opens Try.prog 38 (Kd.pair Kd.string (Kd.pair (Kd.slice 54 k54) Kd.string)) (fun _ => True) := opens_imp (opens_struct Try.underlying38 (by kernel_rfl) (opensF_cons rfl (opens_string Try.underlying9 (by kernel_rfl)) (opensF_cons rfl (opens_slice Try.underlying36 (by kernel_rfl) (opens_iso (d := (Kd.pair Kd.string (Kd.slice 9 Kd.string))) (f := fun x : S54 => (x.f0, x.f1)) (fun p => ⟨⟨p.1, p.2⟩, rfl⟩) (opens_struct Try.underlying54 (by kernel_rfl) (opensF_cons rfl (opens_string Try.underlying9 (by kernel_rfl)) (opensF_one rfl (opens_slice Try.underlying22 (by kernel_rfl) (opens_string Try.underlying9 (by kernel_rfl)))))))) (opensF_one rfl (opens_string Try.underlying9 (by kernel_rfl)))))) (fun _ _ => trivial)
set_option maxRecDepth 100000 in
theorem lifted (os : Os) (started : os.Started) (H : Type) (enc : TypeId × Value → H) :
    ReturnsInHanded {} Try.checked os 6 .any (Rows.lineExactSpec.pre6 enc Try.prog Try.f6 Rows.lineExactRow.domain false) (Rows.lineExactSpec.post enc Try.prog Try.f6 false true false false) := by
  refine returnsInHanded_of_change_sized (C := Try.checked) own started (by kernel_rfl) Try.func6
    (ChangeSpec.witness6 (enc := enc) (C := Try.checked) false ⟨#[], #[.agg #[.string ByteArray.empty, .slice none 0 0, .string ByteArray.empty], .string ByteArray.empty, .string ByteArray.empty], []⟩ 8 (by kernel_rfl) (by kernel_rfl) (by kernel_rfl) (by kernel_rfl)) ?_
  intro W base args ds gs before hval0 hW hcnd hsz0 _
  have hsz : (DataW.weightsEach Try.prog (Try.f6.params.toList ++ Rows.lineExactSpec.plain.varTypes Try.prog) (ds ++ gs)).all (· ≤ reachBytes) = true := hsz0
  have hval : ∀ (j : Nat) t v, Try.f6.params[j]? = some t → args[j]? = some v → Value.okWide Try.prog W .any base t v := hval0
  have hW' := hW
  obtain ⟨p, q, hA0, hV, rfl, hfz, hnd⟩ := hW
  have hA : DataW.TrodAll enc Try.prog W 0 (fun _ => true) true Try.f6.params.toList args.toList ds p := hA0
  rw [Try.params6] at hA hval hsz
  obtain ⟨v0, vs0, d0, ds0, p0, q0, hargs, rfl, rfl, h0, r0⟩ := trodAll_cons hA
  obtain ⟨v1, vs1, d1, ds1, p1, q1, rfl, rfl, rfl, h1, r1⟩ := trodAll_cons r0
  obtain ⟨v2, vs2, d2, ds2, p2, q2, rfl, rfl, rfl, h2, r2⟩ := trodAll_cons r1
  obtain ⟨rfl, rfl, rfl⟩ := trodAll_nil r2
  obtain rfl : args = #[v0, v1, v2] := by cases args; simp_all
  obtain ⟨rfl, rfl⟩ := trodVars_none hV
  have k0 := h0
  have lt0 : ∀ x ∈ p0, x.block < W.heap.size := by obtain ⟨m, hm⟩ := k0; exact DataW.trod_lt m _ _ _ hm
  obtain ⟨agg0, rfl⟩ := okWide_agg Try.underlying38 (hval 0 38 v0 rfl rfl)
  obtain ⟨fuel0, hf0⟩ := h0
  obtain ⟨⟨x0_0, x0_1, x0_2⟩, ⟨_, _, hcs0, rfl, ⟨_, _, rfl, ⟨A0_1, c0_1, rfl, hl0_1, hC0_1⟩, rfl⟩⟩, hQ0⟩ := opens0.2 hf0
  obtain rfl : agg0 = #[.string x0_0, .slice A0_1 x0_1.length c0_1, .string x0_2] := Array.toList_inj.1 (by simpa [Value.cells] using hcs0)
  obtain ⟨a1, rfl, rfl, rfl, y1⟩ := open_string Try.underlying9 (hval 1 9 v1 rfl rfl) h1
  have w1 : a1.size ≤ 140737488351232 := by
    have z := sized_string hsz (j := 1) (t := 9) rfl rfl
    rw [Array.length_toList] at z
    exact z
  obtain ⟨a2, rfl, rfl, rfl, y2⟩ := open_string Try.underlying9 (hval 2 9 v2 rfl rfl) h2
  have w2 : a2.size ≤ 140737488351232 := by
    have z := sized_string hsz (j := 2) (t := 9) rfl rfl
    rw [Array.length_toList] at z
    exact z
  clear hA0 hval0 hsz0 hsz
  obtain ⟨k, hp⟩ := Pure.LineExact x0_0 x0_1 x0_2 a1 a2 w1 w2
  refine (solsticelaw18_LineExact.calls k x0_0 _ _ x0_1 x0_2 a1 a2 true rfl W hC0_1 hl0_1 hp).mono fun e W' ⟨he, bel0⟩ => ?_
  have bel : Below W.heap.size W W' := bel0
  subst he
  exact ⟨_, rfl, _, _, _, [], _, [], hW', trodAll_mk1 (shut_bool Try.underlying4 _), (trodAll_cons_mk (Below.trod laidOut (by kernel_rfl) (of_decide_eq_true (by kernel_rfl)) k0 bel lt0) (trodAll_cons_mk (shut_string Try.underlying9 y1) (trodAll_cons_mk (shut_string Try.underlying9 y2) trodAll_mk0))), rfl, bel.frame _, fun h => by cases h⟩
theorem over : Rows.lineExactRow.holds Try.pinned (OpenSpec.ofChange Rows.lineExactSpec) :=
  OpenClaim.holds_of_wide 6 Try.f6 rfl rfl rfl rfl rfl rfl rfl ⟨rfl, rfl, rfl, rfl, rfl⟩ rfl rfl rfl rfl rfl (by kernel_rfl) Try.func6 (by kernel_rfl)
    (of_decide_eq_true (by kernel_rfl)) (by unfold Func.isWrapper; first | (rw [if_pos (by decide +kernel)]; kernel_rfl) | (rw [if_neg (by decide +kernel)]; exact ⟨rfl, rfl⟩))
    (fun os started H enc _ => lifted os started H enc)
theorem proved : Rows.LineExactSaid := over
#print axioms proved
end Go.Proofs.Ytookjnpmbenheaa.lineExact
namespace Go.Proofs.Ytookjnpmbenheaa
/-- The row, under a short name, for the claim. -/
theorem lineExact_holds : Rows.LineExactSaid := lineExact.proved
end Go.Proofs.Ytookjnpmbenheaa
