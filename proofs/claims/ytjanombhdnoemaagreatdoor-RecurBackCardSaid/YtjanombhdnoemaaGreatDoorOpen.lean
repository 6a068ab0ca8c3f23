-- A text of the kit's tools for this claim, its remarks left out.
import Derived.Test.YtjanombhdnoemaaGreatDoorWAll
import Derived.ChangeArms
import Derived.DataReads
namespace Go.Proofs.YtjanombhdnoemaaGreatDoor.Base
open Go.RowKit Go.ChangeShapes Go.WideShapes Go.Proofs.YtjanombhdnoemaaGreatDoorW.PrintWords
def Opens (P : Program) (t : TypeId) {α : Type} (d : Kd α) (Q : α → Prop) : Prop :=
 P.cellsOf t = d.sz ∧ ∀ {H : Type} {enc : TypeId × Value → H} {w : World} {base : Nat} {spare : Nat → Bool} {held : Bool} {fuel : Nat} {cs : List Value} {x : DataW H × List MemPlace},
  DataW.trod enc P w base spare held fuel t cs = some x → ∃ p, d.K w p cs ∧ Q p
theorem opens_string {P : Program} {t : TypeId} (ht : P.underlying t = some .string) (hc : P.cellsOf t = 1) : Opens P t Kd.string (fun s => s.size ≤ maxLen) :=
 ⟨hc, fun h => by
  obtain ⟨s, rfl, _, hs⟩ := DataW.trod_string ht h
  exact ⟨s, rfl, hs⟩⟩
theorem opens_int {P : Program} {t : TypeId} {k : IntKind} (ht : P.underlying t = some (.int k)) (hc : P.cellsOf t = 1) : Opens P t (Kd.int k) (fun n => (Lit.int k n).wf = true) :=
 ⟨hc, fun h => by
  obtain ⟨n, rfl, _, hn⟩ := DataW.trod_int ht h
  exact ⟨n, rfl, hn⟩⟩
theorem opens_bool {P : Program} {t : TypeId} (ht : P.underlying t = some .bool) (hc : P.cellsOf t = 1) : Opens P t Kd.bool (fun _ => True) :=
 ⟨hc, fun h => by
  obtain ⟨b, rfl, _⟩ := DataW.trod_bool ht h
  exact ⟨b, rfl, trivial⟩⟩
theorem list_choose {α : Type} {R : Nat → α → Prop} : ∀ n : Nat, (∀ i, i < n → ∃ p, R i p) → ∃ ps : List α, ps.length = n ∧ ∀ (i : Nat) p, ps[i]? = some p → R i p
 | 0, _ => ⟨[], rfl, fun i p h => by simp at h⟩
 | n + 1, h => by
  obtain ⟨ps, hl, hp⟩ := list_choose n (fun i hi => h i (by omega))
  obtain ⟨q, hq⟩ := h n (by omega)
  refine ⟨ps ++ [q], by simp [hl], fun i p hi => ?_⟩
  rcases Nat.lt_or_ge i n with hn | hn
  ·rw [List.getElem?_append_left (by omega)] at hi
   exact hp i p hi
  ·rw [List.getElem?_append_right (by omega)] at hi
   have e : i = n := by
    have := (List.getElem?_eq_some_iff.1 hi).1
    simp at this
    omega
   subst e
   simp [hl] at hi
   rw [← hi]
   exact hq
theorem add_twice (a : Addr) (x y : Nat) : (a.add x).add y = a.add (x + y) := by
 unfold Addr.add
 by_cases hx : x = 0
 ·subst hx; simp
 ·by_cases hy : y = 0
  ·subst hy; simp [hx]
  ·have : ¬ (x = 0 ∧ y = 0) := by omega
   simp [hx, hy, Nat.add_assoc]
theorem opens_slice {P : Program} {t e : TypeId} {α : Type} {d : Kd α} {Q : α → Prop} (ht : P.underlying t = some (.slice e)) (hc : P.cellsOf t = 1) (he : Opens P e d Q) : Opens P t (Kd.slice e d) (fun xs => ∀ x ∈ xs, Q x) :=
 ⟨hc, fun {H enc w base spare held fuel cs x} h => by
  rcases DataW.trod_slice ht h with ⟨rfl, _⟩ | ⟨a, len, cap, elems, rest, n, _, rfl, _, _, hl, hm, hlen, hel, _, _⟩
  ·exact ⟨[], ⟨none, 0, rfl, Nat.le_refl _, Kd.C_nil d w⟩, fun x hx => by cases hx⟩
  ·obtain ⟨ps, hpl, hps⟩ := list_choose (R := fun i p => ∃ cs', w.cells? base (a.add (i * P.cellsOf e)) (P.cellsOf e) = some cs' ∧ d.K w p cs' ∧ Q p) len (fun i hi => by
    have hb := hel i hi
    rw [List.getElem?_eq_getElem (by omega)] at hb
    obtain ⟨cs', h1, h2⟩ := Option.bind_eq_some_iff.1 hb
    obtain ⟨p, hk, hq⟩ := he.2 h2
    exact ⟨p, cs', h1, hk, hq⟩)
   refine ⟨ps, ⟨some a, cap, by rw [hpl], by omega, rfl, ?_, fun hn => ⟨a, rfl, fun j p hj => ?_⟩⟩, fun x hx => ?_⟩
   ·rw [hpl]; unfold maxLen at hm; omega
   ·obtain ⟨cs', h1, hk, _⟩ := hps j p hj
    obtain ⟨_, hcl, hcell⟩ := World.cells?_some h1
    rw [he.1] at hcl hcell
    refine ⟨cs', hcl, hk, fun i u hu => ?_⟩
    have hi : i < d.sz := by rw [← hcl]; exact (List.getElem?_eq_some_iff.1 hu).1
    have := hcell i hi
    rw [add_twice] at this
    rw [this]
    exact hu
   ·obtain ⟨i, hi⟩ := List.getElem?_of_mem hx
    obtain ⟨_, _, _, hq⟩ := hps i x hi
    exact hq⟩
structure OpensF (P : Program) (fs : List Field) (o : Nat) {α : Type} (d : Kd α) (Q : α → Prop) : Prop where
 go : ∀ {H : Type} {enc : TypeId × Value → H} {w : World} {base : Nat} {spare : Nat → Bool} {held : Bool} {fuel : Nat} {cs : List Value},
  cs.length = o + d.sz → (∀ f ∈ fs, ∃ x, DataW.trod enc P w base spare held fuel f.type ((cs.drop f.offset).take (P.cellsOf f.type)) = some x) → ∃ p, d.K w p (cs.drop o) ∧ Q p
theorem opensF_one {P : Program} {f : Field} {o : Nat} {α : Type} {d : Kd α} {Q : α → Prop} (ho : f.offset = o) (h : Opens P f.type d Q) : OpensF P [f] o d Q := ⟨fun {H enc w base spare held fuel cs} hl hf => by
 obtain ⟨x, hx⟩ := hf f (List.mem_cons_self ..)
 rw [ho, h.1, List.take_of_length_le (by rw [List.length_drop]; omega)] at hx
 exact h.2 hx⟩
theorem opensF_cons {P : Program} {f : Field} {fs : List Field} {o : Nat} {α β : Type} {d : Kd α} {d' : Kd β} {Q : α → Prop} {Q' : β → Prop} (ho : f.offset = o) (h : Opens P f.type d Q) (h' : OpensF P fs (o + d.sz) d' Q') :
  OpensF P (f :: fs) o (Kd.pair d d') (fun p => Q p.1 ∧ Q' p.2) := ⟨fun {H enc w base spare held fuel cs} hl hf => by
 obtain ⟨x, hx⟩ := hf f (List.mem_cons_self ..)
 rw [ho, h.1] at hx
 obtain ⟨p, hp, hq⟩ := h.2 hx
 have hl' : cs.length = o + d.sz + d'.sz := by rw [hl]; show o + (d.sz + d'.sz) = _; omega
 obtain ⟨p', hp', hq'⟩ := h'.go (w := w) hl' (fun g hg => hf g (List.mem_cons_of_mem _ hg))
 refine ⟨(p, p'), ⟨(cs.drop o).take d.sz, cs.drop (o + d.sz), ?_, hp, hp'⟩, hq, hq'⟩
 rw [← List.drop_drop, List.take_append_drop]⟩
theorem opens_struct {P : Program} {t : TypeId} {fs : Array Field} {α : Type} {d : Kd α} {Q : α → Prop} (ht : P.underlying t = some (.struct fs)) (hc : P.cellsOf t = d.sz) (h : OpensF P fs.toList 0 d Q) : Opens P t d Q :=
 ⟨hc, fun {H enc w base spare held fuel cs x} hx => by
  obtain ⟨xs, n, _, _, hl, hxl, hf⟩ := DataW.trod_struct ht hx
  have := h.go (w := w) (cs := cs) (by rw [hl, hc]; omega) (fun f hfm => by
   obtain ⟨i, hi⟩ := List.getElem?_of_mem hfm
   rw [Array.getElem?_toList] at hi
   have hb := hf i f hi
   have hi' : i < xs.length := by rw [hxl]; exact (Array.getElem?_eq_some_iff.1 hi).1
   rw [List.getElem?_eq_getElem hi'] at hb
   exact ⟨_, hb⟩)
  exact this⟩
theorem opens_iso {P : Program} {t : TypeId} {α β : Type} {d : Kd α} {f : β → α} {Q : α → Prop} (hs : ∀ p, ∃ x, f x = p) (h : Opens P t d Q) : Opens P t (Kd.iso d f) (fun x => Q (f x)) :=
 ⟨h.1, fun {H enc w base spare held fuel cs x} hx => by
  obtain ⟨p, hp, hq⟩ := h.2 hx
  obtain ⟨y, rfl⟩ := hs p
  exact ⟨y, hp, hq⟩⟩
theorem opens_imp {P : Program} {t : TypeId} {α : Type} {d : Kd α} {Q Q' : α → Prop} (h : Opens P t d Q) (hq : ∀ p, Q p → Q' p) : Opens P t d Q' :=
 ⟨h.1, fun {H enc w base spare held fuel cs x} hx => by
  obtain ⟨p, hp, hp'⟩ := h.2 hx
  exact ⟨p, hp, hq p hp'⟩⟩
theorem okWide_agg {P : Program} {w : World} {r : Reach} {base : Nat} {t : TypeId} {v : Value} {fs : Array Field} (ht : P.underlying t = some (.struct fs)) (h : Value.okWide P w r base t v) : ∃ cs, v = .agg cs := by
 unfold Value.okWide at h
 rw [ht] at h
 obtain ⟨cs, rfl, _⟩ := h
 exact ⟨cs, rfl⟩
end Go.Proofs.YtjanombhdnoemaaGreatDoor.Base
