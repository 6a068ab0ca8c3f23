-- A text of the kit's tools for this claim, its remarks left out.
import Derived.Test.YtdgeokpbedllaaaDoorTreF
import Derived.Test.YtdgeokpbedllaaaDoorETrex20
namespace Go.Proofs.YtdgeokpbedllaaaDoor.Pure
open Go.RowKit Go.Proofs.YtdgeokpbedllaaaDoor.PTre Go.Proofs.YtdgeokpbedllaaaDoorW.PrintWords Go.Proofs.YtdgeokpbedllaaaDoorW.PrintLast Go.Proofs.YtdgeokpbedllaaaDoorW.PrintMore Go.Proofs.YtdgeokpbedllaaaDoor.Base Go.Proofs.YtdgeokpbedllaaaDoor.TreK
set_option linter.unusedVariables false
theorem TreeReads_F (s : ByteArray) : solsticelaw19_TreeReads.F s = some true := by
 rw [solsticelaw19_TreeReads.F_eq]
 by_cases h : (s.size : Int) > 3000
 ·rw [if_pos h]
 ·rw [if_neg h]
  obtain ⟨l, e, h1, h2⟩ := parse_any s (by omega)
  rw [h1, bind_some_]
  rcases h2 with ⟨h2, rfl⟩ | ⟨rfl, h3, h4, k, h5, h6⟩
  ·rw [if_neg h2, if_pos (by rfl), wakes19, bind_some_]
  ·obtain ⟨g1, t, g2, g3⟩ := reads_back h5 h3 h4 h6
   have hcl : l.length ≤ 1000000 := by have := h6.len; omega
   have hcc : ∀ c ∈ l, CmpC c := fun c hc => by
    obtain ⟨f1, f2, f3, f4, f5⟩ := h6.fit c hc
    refine ⟨by omega, fun x hx => ?_⟩
    have g4 := costT_mem hc
    obtain ⟨k1, k2, k3⟩ := costC_lines c
    have g5 := k3 x hx
    have g6 := psum_len x.f1
    have g7 : wt x = x.f0.size + psum x.f1 + 1 + x.f2.size := rfl
    refine ⟨by omega, fun p hp => ?_⟩
    have g8 := psum_mem hp
    have g9 := qsum_len p.f1
    omega
   rw [if_pos rfl, g2, bind_some_, g3, bind_some_, g1, bind_some_, if_pos rfl, if_pos rfl, if_pos rfl, keep_comps hcl hcc, bind_some_, if_pos (decide_eq_true rfl), wakes19, bind_some_]
theorem TreeReads (s : ByteArray) (_ : s.size ≤ 140737488351232) : ∃ k, solsticelaw19_TreeReads.f k s = some true := lim_some (TreeReads_F s)
end Go.Proofs.YtdgeokpbedllaaaDoor.Pure
