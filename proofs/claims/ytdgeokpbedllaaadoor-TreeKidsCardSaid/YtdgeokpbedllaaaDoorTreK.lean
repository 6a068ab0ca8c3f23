-- A text of the kit's tools for this claim, its remarks left out.
import Derived.Test.YtdgeokpbedllaaaDoorBase
namespace Go.Proofs.YtdgeokpbedllaaaDoor.TreK
structure Lam (E : Nat → Nat) (n : Nat) : Prop where
 up : ∀ a, a < n → a < E a ∧ E a ≤ n
 inn : ∀ a b, a < b → b < E a → a < n → E b ≤ E a
def kl (E : Nat → Nat) : Nat → Nat → Nat → List Nat
 | 0, _, _ => []
 | f + 1, j, e => if j < e then j :: kl E f (E j) e else []
def kids (E : Nat → Nat) (n a : Nat) : List Nat := kl E n (a + 1) (E a)
variable {E : Nat → Nat} {n : Nat}
theorem kl_spec (h : Lam E n) (a : Nat) (ha : a < n) : ∀ f j, a < j → j ≤ E a → E a ≤ j + f →
  (∀ x ∈ kl E f j (E a), j ≤ x ∧ x < E a) ∧ (kl E f j (E a)).Pairwise (fun c d => E c ≤ d) ∧ (∀ y, j ≤ y → y < E a → ∃ c ∈ kl E f j (E a), c ≤ y ∧ y < E c) := by
 intro f
 induction f with
 | zero =>
  intro j h1 h2 h3
  refine ⟨fun x hx => (by cases hx), List.Pairwise.nil, fun y hy hy' => by omega⟩
 | succ f ih =>
  intro j h1 h2 h3
  rw [kl]
  by_cases hj : j < E a
  ·rw [if_pos hj]
   have hn := (h.up a ha).2
   have hu := h.up j (by omega)
   have hi := h.inn a j h1 hj ha
   obtain ⟨i1, i2, i3⟩ := ih (E j) (by omega) hi (by omega)
   refine ⟨?_, ?_, ?_⟩
   ·intro x hx
    rcases List.mem_cons.1 hx with rfl | hx
    ·exact ⟨Nat.le_refl _, hj⟩
    ·have := i1 x hx; omega
   ·exact List.pairwise_cons.2 ⟨fun d hd => (i1 d hd).1, i2⟩
   ·intro y hy hy'
    by_cases hc : y < E j
    ·exact ⟨j, List.mem_cons_self .., hy, hc⟩
    ·obtain ⟨c, hc1, hc2⟩ := i3 y (by omega) hy'
     exact ⟨c, List.mem_cons_of_mem _ hc1, hc2⟩
  ·rw [if_neg hj]
   refine ⟨fun x hx => (by cases hx), List.Pairwise.nil, fun y hy hy' => by omega⟩
theorem kids_spec (h : Lam E n) (a : Nat) (ha : a < n) : (∀ x ∈ kids E n a, a < x ∧ x < E a) ∧ (kids E n a).Pairwise (fun c d => E c ≤ d) ∧ (∀ y, a < y → y < E a → ∃ c ∈ kids E n a, c ≤ y ∧ y < E c) := by
 have hu := h.up a ha
 obtain ⟨h1, h2, h3⟩ := kl_spec h a ha n (a + 1) (by omega) (by omega) (by omega)
 exact ⟨fun x hx => by have := h1 x hx; omega, h2, fun y h4 h5 => h3 y (by omega) h5⟩
theorem pair_mem {α : Type} {R : α → α → Prop} : ∀ {l : List α}, l.Pairwise R → ∀ {c d : α}, c ∈ l → d ∈ l → c = d ∨ R c d ∨ R d c
 | [], _, _, _, hc, _ => (by cases hc)
 | x :: l, hp, c, d, hc, hd => by
  rw [List.pairwise_cons] at hp
  rcases List.mem_cons.1 hc with e | hc' <;> rcases List.mem_cons.1 hd with e' | hd'
  ·exact Or.inl (e.trans e'.symm)
  ·rw [e]; exact Or.inr (Or.inl (hp.1 d hd'))
  ·rw [e']; exact Or.inr (Or.inr (hp.1 c hc'))
  ·exact pair_mem hp.2 hc' hd'
theorem kids_one (h : Lam E n) {a b j : Nat} (ha : a < n) (hb : b < n) (h1 : j ∈ kids E n a) (h2 : j ∈ kids E n b) : a = b := by
 have key : ∀ {a b : Nat}, a < n → b < n → j ∈ kids E n a → j ∈ kids E n b → ¬ a < b := by
  intro a b ha hb h1 h2 hab
  obtain ⟨a1, a2, a3⟩ := kids_spec h a ha
  obtain ⟨b1, _, _⟩ := kids_spec h b hb
  have ja := a1 j h1
  have jb := b1 j h2
  obtain ⟨c, hc, c1, c2⟩ := a3 b hab (by omega)
  have hca := a1 c hc
  have hn := (h.up a ha).2
  have hE : E b ≤ E c := by
   by_cases e : c = b
   ·rw [e]; exact Nat.le_refl _
   ·exact h.inn c b (by omega) c2 (by omega)
  have huj := h.up j (by omega)
  rcases pair_mem a2 hc h1 with e | e | e
  ·omega
  ·omega
  ·omega
 rcases Nat.lt_trichotomy a b with e | e | e
 ·exact absurd e (key ha hb h1 h2)
 ·exact e
 ·exact absurd e (key hb ha h2 h1)
theorem last_over {j : Nat} (h0 : j < E 0) : ∀ m, 0 < m → ∃ a, a < m ∧ j < E a ∧ ∀ b, a < b → b < m → E b ≤ j := by
 intro m
 induction m with
 | zero => intro h; omega
 | succ m ih =>
  intro _
  by_cases hm : m = 0
  ·exact ⟨0, by omega, h0, fun b h1 h2 => by omega⟩
  ·by_cases hE : j < E m
   ·exact ⟨m, by omega, hE, fun b h1 h2 => by omega⟩
   ·obtain ⟨a, h1, h2, h3⟩ := ih (by omega)
    refine ⟨a, by omega, h2, fun b h4 h5 => ?_⟩
    by_cases e : b = m
    ·rw [e]; omega
    ·exact h3 b h4 (by omega)
theorem kids_some (h : Lam E n) (h0 : E 0 = n) {j : Nat} (hj : 0 < j) (hn : j < n) : ∃ a, a < j ∧ j ∈ kids E n a := by
 obtain ⟨a, h1, h2, h3⟩ := last_over (E := E) (j := j) (by omega) j hj
 refine ⟨a, h1, ?_⟩
 obtain ⟨a1, a2, a3⟩ := kids_spec h a (by omega)
 obtain ⟨c, hc, c1, c2⟩ := a3 j h1 h2
 have := a1 c hc
 by_cases e : c = j
 ·rw [← e]; exact hc
 ·have := h3 c (by omega) (by omega)
  omega
end Go.Proofs.YtdgeokpbedllaaaDoor.TreK
