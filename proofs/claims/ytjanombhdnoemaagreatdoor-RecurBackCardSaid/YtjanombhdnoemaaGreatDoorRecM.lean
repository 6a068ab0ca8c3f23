-- A text of the kit's tools for this claim, its remarks left out.
import Derived.Maps.OwnOps
import Derived.DeepKeys5
import Derived.WalkKit
import Derived.Below
namespace Go.Proofs.YtjanombhdnoemaaGreatDoor.RecM
open Go.RowKit
open Go.Maps (Keyed)
open Go.ChangeMaps (setBlock heap_setBlock_same heap_setBlock_other)
def hasB {α : Type} [DecidableEq α] (l : List α) (x : α) : Bool := l.any fun y => decide (y = x)
theorem hasB_iff {α : Type} [DecidableEq α] {l : List α} {x : α} : hasB l x = true ↔ x ∈ l := by
 unfold hasB
 rw [List.any_eq_true]
 exact ⟨fun ⟨y, hy, h⟩ => by rw [← of_decide_eq_true h]; exact hy, fun h => ⟨x, h, decide_eq_true rfl⟩⟩
def SetOf (P : Program) (k : TypeId) (w : World) (b : Nat) (ks : List Value) : Prop :=
 ∃ es clock, w.heap[b]? = some (.map es clock) ∧ es.toList.map (·.key) = ks ∧ (∀ e ∈ es.toList, e.val = .bool true) ∧ ∀ e ∈ es.toList, ∃ l, keyOf P k e.key = some l
variable {P : Program} {k e t : TypeId} {w w1 : World} {b : Nat} {ks : List Value}
theorem SetOf.new (w : World) : SetOf P k (w.alloc (.map #[] 0)) w.heap.size [] := ⟨#[], 0, (MapKept.heap_alloc w _).1, rfl, fun e he => by simp at he, fun e he => by simp at he⟩
theorem SetOf.lt (h : SetOf P k w b ks) : b < w.heap.size := by
 obtain ⟨es, clock, hb, _⟩ := h
 exact (Array.getElem?_eq_some_iff.1 hb).1
theorem SetOf.keep (h : SetOf P k w b ks) (hk : w1.heap[b]? = w.heap[b]?) : SetOf P k w1 b ks := by
 obtain ⟨es, clock, hb, h⟩ := h
 exact ⟨es, clock, hk.trans hb, h⟩
theorem SetOf.below (h : SetOf P k w b ks) (hb : Below w.heap.size w w1) : SetOf P k w1 b ks := h.keep (hb.block b h.lt)
theorem SetOf.lookup (h : SetOf P k w b ks) (K : Keyed P k) (ht : P.underlying t = some (.map k e)) (hz : (zeroValue e).run P w = .ok (.bool false) w) {key : Value} {kl : Lit} (hkey : keyOf P k key = some kl) {c : Bool} (hc : c = true ↔ key ∈ ks) :
  (Instr.lookup t (.map (some b)) key false).run P w = .ok (.bool c) w := by
 obtain ⟨es, clock, hb, rfl, hv, hl⟩ := h
 rcases K.find w hkey es.toList hl with ⟨h1, h2⟩ | ⟨j, e0, h1, h2, h3⟩
 ·have : c = false := by
   cases c with
   | false => rfl
   | true =>
    obtain ⟨x, hx, e1⟩ := List.mem_map.1 (hc.1 rfl)
    exact absurd e1 (h2 x hx)
  subst this
  simp [Instr.lookup, run_underlying ht, MapKept.run_getObj_map hb, K.check w _ hkey, h1, hz, Result.andThen]
 ·have hm : e0 ∈ es.toList := List.mem_of_getElem? h2
  have : c = true := hc.2 (List.mem_map.2 ⟨e0, hm, h3⟩)
  subst this
  simp [Instr.lookup, run_underlying ht, MapKept.run_getObj_map hb, K.check w _ hkey, h1, Result.andThen, hv e0 hm]
theorem SetOf.add (h : SetOf P k w b ks) (K : Keyed P k) (ht : P.underlying t = some (.map k e)) {key : Value} {kl : Lit} (hkey : keyOf P k key = some kl) (hn : key ∉ ks) (hr : ks.length < maxLen) :
  ∃ w', (Instr.mapUpdate t (.map (some b)) key (.bool true)).run P w = .ok () w' ∧ SetOf P k w' b (ks ++ [key]) ∧ w.grownBy w' (some b) := by
 obtain ⟨es, clock, hb, rfl, hv, hl⟩ := h
 rcases K.find w hkey es.toList hl with ⟨h1, h2⟩ | ⟨j, e0, h1, h2, h3⟩
 ·have hsz : es.size < maxLen := by simpa using hr
  refine ⟨setBlock w b (.map (es.push ⟨key, .bool true, clock⟩) (clock + 1)), ?_, ⟨es.push ⟨key, .bool true, clock⟩, clock + 1, heap_setBlock_same hb _, by simp, ?_, ?_⟩, ⟨rfl, rfl, rfl, by simp [setBlock], fun i _ hi => heap_setBlock_other hb _ (fun e => hi (by rw [e]))⟩⟩
  ·simp [Instr.mapUpdate, run_underlying ht, MapKept.run_getObj_map hb, K.check w false hkey, h1, MapKept.run_setObj_map _ hb, Result.andThen, setBlock]
  ·intro x hx
   simp only [Array.toList_push, List.mem_append, List.mem_singleton] at hx
   rcases hx with hx | rfl
   ·exact hv x hx
   ·rfl
  ·intro x hx
   simp only [Array.toList_push, List.mem_append, List.mem_singleton] at hx
   rcases hx with hx | rfl
   ·exact hl x hx
   ·exact ⟨kl, hkey⟩
 ·exact absurd (List.mem_map.2 ⟨e0, List.mem_of_getElem? h2, h3⟩) hn
theorem wpList_lookup_set {ops : Array Oper} {rest : List Oper} {o : Oper} {a : Act} {Q : Exit → Act → World → Prop}
  (hg : o.guard = none) (m x : Operand) (t : TypeId) (hop : o.op = Op.lookup t m x false) (k e : TypeId) (K : Keyed P k) (ht : P.underlying t = some (.map k e)) (hz : (zeroValue e).run P w = .ok (.bool false) w) (b : Nat) (ks : List Value)
  (hm : a.eval m = .map (some b)) (h : SetOf P k w b ks) (key : Value) (kl : Lit) (hx : a.eval x = key) (hkey : keyOf P k key = some kl) (c : Bool) (hc : c = true ↔ key ∈ ks)
  (hK : wpList P ops Q rest (a.put o.dst (.bool c)) w) : wpList P ops Q (o :: rest) a w := by
 refine wpList_plain hg fun K' hK' => ?_
 have hrun := h.lookup K ht hz hkey hc
 unfold Oper.wp
 simp [execOp, hop, hm, hx, hrun, Result.andThen]
 exact hK' _ _ hK
theorem wpList_add_set {ops : Array Oper} {rest : List Oper} {o : Oper} {a : Act} {Q : Exit → Act → World → Prop}
  (hg : o.guard = none) (m x v : Operand) (t : TypeId) (hop : o.op = Op.mapUpdate t m x v) (k e : TypeId) (K : Keyed P k) (ht : P.underlying t = some (.map k e)) (b : Nat) (ks : List Value)
  (hm : a.eval m = .map (some b)) (h : SetOf P k w b ks) (key : Value) (kl : Lit) (hx : a.eval x = key) (hv : a.eval v = .bool true) (hkey : keyOf P k key = some kl) (hn : key ∉ ks) (hr : ks.length < maxLen)
  (hK : ∀ w', SetOf P k w' b (ks ++ [key]) → w.grownBy w' (some b) → wpList P ops Q rest (a.put o.dst undef) w') : wpList P ops Q (o :: rest) a w := by
 refine wpList_plain hg fun K' hK' => ?_
 obtain ⟨w', hrun, r1, r2⟩ := h.add K ht hkey hn hr
 unfold Oper.wp
 simp [execOp, hop, hm, hx, hv, hrun, Result.andThen]
 exact hK' _ _ (hK w' r1 r2)
end Go.Proofs.YtjanombhdnoemaaGreatDoor.RecM
