-- A text of the kit's tools for this claim, its remarks left out.
import Derived.Test.YtdgeokpbedllaaaDoorTrLC
import Derived.Test.YtdgeokpbedllaaaDoorETrex7
namespace Go.Proofs.YtdgeokpbedllaaaDoor.Base
open Go.RowKit Go.Proofs.YtdgeokpbedllaaaDoor.PTre Go.Proofs.YtdgeokpbedllaaaDoorW.PrintWords Go.Proofs.YtdgeokpbedllaaaDoorW.PrintLast Go.Proofs.YtdgeokpbedllaaaDoorW.PrintMore
set_option linter.unusedVariables false
set_option linter.unusedSimpArgs false
def sm (c : Int) : Int := if 65 ≤ c ∧ c ≤ 90 then c + 32 else c
theorem small_eq (c : Int) : line_small.f c = some (sm c) := by
 unfold line_small.f sm
 by_cases h1 : c ≥ 65
 ·rw [if_pos h1]
  by_cases h2 : c ≤ 90
  ·rw [if_pos h2, if_pos ⟨h1, h2⟩]
   congr 1
   omega
  ·rw [if_neg h2, if_neg (fun h => h2 h.2)]
 ·rw [if_neg h1, if_neg (fun h => h1 h.1)]
def alk (a b : ByteArray) : Bool := decide ((bytesOf a).map sm = (bytesOf b).map sm)
theorem alk_L0 (a b : ByteArray) (ha : a.size ≤ 1000000) (he : a.size = b.size) : ∀ (n : Nat) (i : Int), n = a.size - i.toNat → 0 ≤ i → i ≤ (a.size : Int) →
  line_Alike.L0 a b (a.size : Int) i = some (decide ((rest a i).map sm = (rest b i).map sm)) := by
 intro n
 induction n with
 | zero =>
  intro i hn h0 h1
  rw [line_Alike.L0_eq, if_neg (by omega), rest_nil (by omega), rest_nil (by omega)]
  rfl
 | succ n ih =>
  intro i hn h0 h1
  have hlt : i < (a.size : Int) := by omega
  have e1 := ih (i + 1) (by omega) (by omega) (by omega)
  rw [line_Alike.L0_eq, if_pos hlt, if_pos h0, if_pos hlt, small_eq, bind_some_, if_pos (by omega), small_eq, bind_some_, wrap64_id (n := i + 1) (by omega) (by omega), e1, rest_cons h0 hlt, rest_cons (s := b) h0 (by omega), List.map_cons, List.map_cons]
  by_cases h : sm (bt a i) = sm (bt b i)
  ·rw [if_pos h]
   congr 1
   rw [decide_eq_decide, List.cons.injEq]
   exact ⟨fun h' => ⟨h, h'⟩, fun h' => h'.2⟩
  ·rw [if_neg h, decide_eq_false (fun h' => h (List.cons.inj h').1)]
theorem alk_eq (a b : ByteArray) (ha : a.size ≤ 1000000) : line_Alike.F a b = some (alk a b) := by
 have za := size_len a; have zb := size_len b
 rw [line_Alike.F_eq]
 unfold alk
 by_cases h : a.size = b.size
 ·rw [if_pos (by omega), alk_L0 a b ha h _ 0 rfl (by omega) (by omega), rest_zero, rest_zero]
 ·rw [if_neg (by omega), decide_eq_false (fun h' => by
   have := congrArg List.length h'
   rw [List.length_map, List.length_map] at this
   omega)]
end Go.Proofs.YtdgeokpbedllaaaDoor.Base
