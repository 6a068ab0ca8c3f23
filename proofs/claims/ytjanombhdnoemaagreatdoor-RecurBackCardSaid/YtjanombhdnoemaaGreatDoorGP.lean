/- What the calls ask of the world's tables: strconv's powers of ten, and that a number stands where the library keeps its own. It lasts where the old blocks last. No condition. -/
import Derived.Test.YtjanombhdnoemaaGreatDoorShelf
import Derived.Below
import Derived.Lib.LaidTab
import Derived.Lib.LaidU8
import Derived.Lib.AppendIntMem
import Derived.Test.YtjanombhdnoemaaGreatDoorWAll
namespace Go.Proofs.YtjanombhdnoemaaGreatDoor.Base
open Go.RowKit
open Go.Proofs.YtjanombhdnoemaaGreatDoorW.PrintWords
def GP (w : World) : Prop := Lib.TabIs Tryz.prog w "internal/strconv.uint64pow10" .u64 Lib.pow10Tab ∧ ∃ m, w.cell? ⟨0, 0, none⟩ = some (.int .i64 m)
theorem GP_tab {w : World} (h : GP w) : Lib.TabIs Tryz.prog w "internal/strconv.uint64pow10" .u64 Lib.pow10Tab := h.1
theorem GP_max {w : World} (h : GP w) : ∃ m, w.cell? ⟨0, 0, none⟩ = some (.int .i64 m) := h.2
theorem GP_heap {w w' : World} (h : GP w) (hb : ∀ j, j < w.heap.size → w'.heap[j]? = w.heap[j]?) : GP w' := by
  obtain ⟨h1, m, hm⟩ := h
  refine ⟨?_, m, ?_⟩
  · unfold Lib.TabIs World.var? at *
    cases hg : Tryz.prog.globalNamed "internal/strconv.uint64pow10" with
    | none => simp [hg] at h1
    | some g =>
      simp only [hg, Option.bind_some] at h1 ⊢
      have hlt : g < w.heap.size := by
        rcases Nat.lt_or_ge g w.heap.size with h' | h'
        · exact h'
        · rw [Array.getElem?_eq_none h'] at h1; simp at h1
      rw [hb g hlt]
      exact h1
  · have hlt : 0 < w.heap.size := World.block_lt_of_cell? w _ hm
    unfold World.cell? at hm ⊢
    rw [hb _ hlt]
    exact hm
theorem GP_below {w w' : World} (h : GP w) (hb : Below w.heap.size w w') : GP w' := GP_heap h (fun j hj => hb.block j hj)
theorem GP_alloc {w : World} (h : GP w) (o : Obj) : GP (w.alloc o) := GP_heap h (fun j hj => by
  show (w.heap.push o)[j]? = _
  rw [Array.getElem?_push, if_neg (by omega)])
theorem GP_drewN {w : World} (h : GP w) (n : Nat) : GP (w.drewN n) := GP_heap h (fun _ _ => rfl)
theorem GP_drew {w : World} (h : GP w) : GP w.drew := GP_heap h (fun _ _ => rfl)
theorem GP_drawn {w w' : World} (h : GP w) (hd : Drawn0 w w') : GP w' := by
  obtain ⟨n, rfl⟩ := hd
  exact GP_drewN h n
end Go.Proofs.YtjanombhdnoemaaGreatDoor.Base
