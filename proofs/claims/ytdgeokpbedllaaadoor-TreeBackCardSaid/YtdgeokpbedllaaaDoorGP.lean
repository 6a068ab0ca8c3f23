/- What the calls ask of the world: that a number stands where the library keeps its own. It lasts where the old blocks last. No condition. -/
import Derived.Test.YtdgeokpbedllaaaDoorShelf
import Derived.Below
import Derived.Test.YtdgeokpbedllaaaDoorWAll
namespace Go.Proofs.YtdgeokpbedllaaaDoor.Base
open Go.RowKit
open Go.Proofs.YtdgeokpbedllaaaDoorW.PrintWords
def GP (w : World) : Prop := ∃ m, w.cell? ⟨0, 0, none⟩ = some (.int .i64 m)
theorem GP_max {w : World} (h : GP w) : ∃ m, w.cell? ⟨0, 0, none⟩ = some (.int .i64 m) := h
theorem GP_heap {w w' : World} (h : GP w) (hb : ∀ j, j < w.heap.size → w'.heap[j]? = w.heap[j]?) : GP w' := by
  obtain ⟨m, hm⟩ := h
  refine ⟨m, ?_⟩
  have hlt : 0 < w.heap.size := World.block_lt_of_cell? w _ hm
  unfold World.cell? at hm ⊢
  rw [hb _ hlt]
  exact hm
theorem GP_below {w w' : World} (h : GP w) (hb : Below w.heap.size w w') : GP w' := GP_heap h (fun j hj => hb.block j hj)
theorem GP_alloc {w : World} (h : GP w) (o : Obj) : GP (w.alloc o) := GP_heap h (fun j hj => by
  show (w.heap.push o)[j]? = _
  rw [Array.getElem?_push, if_neg (by omega)])
theorem GP_drewN {w : World} (h : GP w) (n : Nat) : GP (w.drewN n) := GP_heap h (fun _ _ => rfl)
theorem GP_drew {w : World} (h : GP w) : GP w.drew := GP_heap h (fun _ _ => rfl)
theorem GP_drawn {w w' : World} (h : GP w) (hd : Drawn0 w w') : GP w' := by
  obtain ⟨n, rfl⟩ := hd
  exact GP_drewN h n
end Go.Proofs.YtdgeokpbedllaaaDoor.Base
