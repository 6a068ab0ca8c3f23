/- Lines folded anywhere; pieces of a folded line are short and begin with no byte that goes on. No condition. -/
import Derived.Test.YtfiiipjglacejaaDoorFolB
namespace Go.Proofs.YtfiiipjglacejaaDoor.Base
open Go.RowKit Go.Proofs.YtfiiipjglacejaaDoor.PFol Go.Proofs.YtfiiipjglacejaaDoorW.PrintWords Go.Proofs.YtfiiipjglacejaaDoorW.PrintLast Go.Proofs.YtfiiipjglacejaaDoorW.PrintMore
set_option linter.unusedVariables false
set_option linter.unusedSimpArgs false

/-! Folded anywhere -/
/-- The text t is p, folded somewhere. -/
def Fo (t p : List Int) : Prop := ∀ T : List Int, ub (rp (t ++ T)) = p ++ ub (rp T) ∧ (t ++ T).count 13 + cl T = cl (t ++ T) + T.count 13
theorem Fo_nil : Fo [] [] := fun T => ⟨rfl, by rw [List.nil_append]; omega⟩
theorem Fo_app {t p t' p' : List Int} (h : Fo t p) (h' : Fo t' p') : Fo (t ++ t') (p ++ p') := fun T => by
  obtain ⟨a1, a2⟩ := h (t' ++ T)
  obtain ⟨b1, b2⟩ := h' T
  rw [List.append_assoc, a1, b1, List.append_assoc]
  exact ⟨rfl, by omega⟩
theorem Fo_chr {c : Int} (h1 : c ≠ 10) (h2 : c ≠ 13) : Fo [c] [c] := fun T => by
  obtain ⟨e1, e2, e3⟩ := cl_put (A := [c]) (T := T) ⟨by simpa using fun h => h1 h.symm, by simpa using fun h => h2 h.symm⟩
  rw [e1, e2, e3]
  refine ⟨?_, by omega⟩
  show ub (c :: rp T) = c :: ub (rp T)
  exact ub_put (fun h => h1 h.1)
/-- A line's end. -/
def isEnd (e : List Int) : Prop := e = [13, 10] ∨ e = [10]
theorem Fo_fold {e : List Int} {b : Int} (he : isEnd e) (hb : b = 32 ∨ b = 9) : Fo (e ++ [b]) [] := fun T => by
  have d := cl_put (A := [b]) (T := T) ⟨by rcases hb with rfl | rfl <;> decide, by rcases hb with rfl | rfl <;> decide⟩
  obtain ⟨d1, d2, d3⟩ := d
  rw [List.singleton_append] at d1 d2 d3
  rw [List.singleton_append] at d2
  rw [List.append_assoc, List.singleton_append]
  rcases he with rfl | rfl
  · obtain ⟨a1, a2, a3⟩ := cl_crlf (b :: T)
    show ub (rp (13 :: 10 :: b :: T)) = _ ∧ (13 :: 10 :: b :: T : List Int).count 13 + _ = cl (13 :: 10 :: b :: T) + _
    rw [a1, a2, a3, d1, d2, d3, ub_skip hb]
    exact ⟨rfl, by omega⟩
  · obtain ⟨a1, a2, a3⟩ := cl_lf (b :: T)
    show ub (rp (10 :: b :: T)) = _ ∧ (10 :: b :: T : List Int).count 13 + _ = cl (10 :: b :: T) + _
    rw [a1, a2, a3, d1, d2, d3, ub_skip hb]
    exact ⟨rfl, by omega⟩
theorem unf_any {t s e : List Int} (h : Fo t s) (hs : (10 : Int) ∉ s) (he : isEnd e) : unfS (t ++ e) = some [s] := by
  obtain ⟨a1, a2⟩ := h e
  have b : ub (rp e) = [10] ∧ e.count 13 = cl e := by
    rcases he with rfl | rfl
    · exact ⟨rfl, rfl⟩
    · exact ⟨rfl, rfl⟩
  rw [b.1] at a1
  unfold unfS
  rw [if_pos (by omega), a1, spl_hit (fun x hx (e : x = 10) => hs (by rw [← e]; exact hx))]
  rfl
/-! Signs -/
def sg : Nat → List Int → Bool
  | k, [] => decide (k = 0)
  | 0, c :: t => if c < 128 then sg 0 t else if 192 ≤ c ∧ c < 224 then sg 1 t else if 224 ≤ c ∧ c < 240 then sg 2 t else if 240 ≤ c ∧ c < 248 then sg 3 t else false
  | k + 1, c :: t => if c < 128 ∨ 192 ≤ c then false else sg k t
theorem onB_iff {c : Int} : onB c = true ↔ 128 ≤ c ∧ c ≤ 191 := by unfold onB; simp
theorem sg_next {k : Nat} {c : Int} {t : List Int} (hk : k ≤ 3) (h : sg k (c :: t) = true) : (onB c = true ↔ 0 < k) ∧ ∃ k', k' ≤ 3 ∧ sg k' t = true ∧ (0 < k → k' = k - 1) := by
  cases k with
  | zero =>
    rw [sg] at h
    rw [onB_iff]
    split at h
    · exact ⟨⟨fun h' => by omega, fun h' => by omega⟩, 0, by omega, h, fun h' => by omega⟩
    · split at h
      · exact ⟨⟨fun h' => by omega, fun h' => by omega⟩, 1, by omega, h, fun h' => by omega⟩
      · split at h
        · exact ⟨⟨fun h' => by omega, fun h' => by omega⟩, 2, by omega, h, fun h' => by omega⟩
        · split at h
          · exact ⟨⟨fun h' => by omega, fun h' => by omega⟩, 3, by omega, h, fun h' => by omega⟩
          · cases h
  | succ k =>
    rw [sg] at h
    rw [onB_iff]
    split at h
    · cases h
    · exact ⟨⟨fun h' => by omega, fun h' => by omega⟩, k, by omega, h, fun h' => by omega⟩
theorem sg_drop : ∀ (j : Nat) (k : Nat) (l : List Int), k ≤ 3 → sg k l = true → j ≤ l.length → ∃ k', k' ≤ 3 ∧ sg k' (l.drop j) = true := by
  intro j
  induction j with
  | zero => intro k l hk h _; exact ⟨k, hk, h⟩
  | succ j ih =>
    intro k l hk h hj
    cases l with
    | nil => simp at hj
    | cons c t =>
      obtain ⟨_, k', g1, g2, _⟩ := sg_next hk h
      rw [List.length_cons] at hj
      exact ih k' t g1 g2 (by omega)
theorem drop_getD {l : List Int} {j : Nat} (h : j < l.length) : l.drop j = l.getD j 0 :: l.drop (j + 1) := by
  rw [List.drop_eq_getElem_cons h, List.getD_eq_getElem?_getD, List.getElem?_eq_getElem h]
  rfl
theorem sg_off {l : List Int} {j : Nat} (h : sg 0 l = true) (hj : j < l.length) (hon : onB (l.getD j 0) = false) : sg 0 (l.drop j) = true := by
  obtain ⟨k, hk, g⟩ := sg_drop j 0 l (by omega) h (by omega)
  have g' := g
  rw [drop_getD hj] at g'
  obtain ⟨h1, _⟩ := sg_next hk g'
  have : k = 0 := by
    rcases Nat.eq_zero_or_pos k with h' | h'
    · exact h'
    · rw [h1.2 h'] at hon
      cases hon
  rw [this] at g
  exact g
theorem sg_cut {l : List Int} {room : Nat} (h : sg 0 l = true) (hl : ¬ l.length ≤ room) (hr : 4 ≤ room) : onB (l.getD (cutL l room) 0) = false ∧ sg 0 (l.drop (cutL l room)) = true := by
  obtain ⟨k1, k2, k3⟩ := cutL_big hl hr
  suffices hon : onB (l.getD (cutL l room) 0) = false from ⟨hon, sg_off h k3 hon⟩
  unfold cutL
  rw [if_neg hl]
  split
  · assumption
  · split
    · assumption
    · split
      · assumption
      · split
        · assumption
        · rename_i h0 h1 h2 h3
          exfalso
          rw [Bool.not_eq_false] at h0 h1 h2 h3
          obtain ⟨k, hk, g⟩ := sg_drop (room - 3) 0 l (by omega) h (by omega)
          rw [drop_getD (by omega), show room - 3 + 1 = room - 2 by omega, drop_getD (j := room - 2) (by omega), show room - 2 + 1 = room - 1 by omega, drop_getD (j := room - 1) (by omega), show room - 1 + 1 = room by omega, drop_getD (j := room) (by omega)] at g
          obtain ⟨a1, p1, b1, c1, d1⟩ := sg_next hk g
          have q1 := a1.1 h3
          have r1 := d1 q1
          obtain ⟨a2, p2, b2, c2, d2⟩ := sg_next b1 c1
          have q2 := a2.1 h2
          have r2 := d2 q2
          obtain ⟨a3, p3, b3, c3, d3⟩ := sg_next b2 c2
          have q3 := a3.1 h1
          have r3 := d3 q3
          obtain ⟨a4, p4, b4, c4, d4⟩ := sg_next b3 c3
          have q4 := a4.1 h0
          omega
end Go.Proofs.YtfiiipjglacejaaDoor.Base
