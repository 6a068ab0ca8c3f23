-- A text of the kit's tools for this claim, its remarks left out.
import Derived.Test.YtdgeokpbedllaaaDoorTreQ
import Derived.Test.YtdgeokpbedllaaaDoorTreKd
import Derived.Test.YtdgeokpbedllaaaDoorETrex20
namespace Go.Proofs.YtdgeokpbedllaaaDoor.Pure
open Go.RowKit Go.Proofs.YtdgeokpbedllaaaDoor.PTre Go.Proofs.YtdgeokpbedllaaaDoorW.PrintWords Go.Proofs.YtdgeokpbedllaaaDoorW.PrintLast Go.Proofs.YtdgeokpbedllaaaDoorW.PrintMore Go.Proofs.YtdgeokpbedllaaaDoor.Base Go.Proofs.YtdgeokpbedllaaaDoor.TreK
set_option linter.unusedVariables false
set_option linter.unusedSimpArgs false
structure Played (l : List S40) : Prop where
 len : l.length ≤ 30
 light : ∀ c ∈ l, LightC c
 wf : ∀ c ∈ l, -9223372036854775808 ≤ c.f2 ∧ c.f2 ≤ 9223372036854775807
theorem Played.back {l : List S40} (h : Played l) : tree_Text.F l = some ((⟨#[]⟩ : ByteArray), 20) ∨ tree_Text.F l = some ((⟨#[]⟩ : ByteArray), 2) ∨ ∃ s, tree_Text.F l = some (s, 0) ∧ tree_Parse.F s = some (l, 0) := by
 have h1 := h.len
 rcases (text_back (l := l) (by omega) (fun c hc => by
  obtain ⟨g1, g2, g3⟩ := h.light c hc
  exact ⟨by omega, (h.wf c hc).1, (h.wf c hc).2, fun x hx => light_Sz (g3 x hx)⟩) (fun c hc => by have := (h.light c hc).2.1; omega) (fun hr => by
  have := evs_len (l := l) (M := 20) (fun a ha => (h.light _ (rd_in ha)).2.1) l.length 0 [] (by omega)
  rw [List.length_nil] at this
  unfold evA
  omega)).2 with h2 | h2 | h2
 ·exact Or.inl h2.2
 ·exact Or.inr (Or.inl h2.2.2)
 ·exact Or.inr (Or.inr ⟨_, h2.2.2.2.1, h2.2.2.2.2⟩)
theorem Played.cmp {l : List S40} (h : Played l) : l.length ≤ 1000000 ∧ ∀ c ∈ l, CmpC c := by
 refine ⟨by have := h.len; omega, fun c hc => ?_⟩
 obtain ⟨g1, g2, g3⟩ := h.light c hc
 exact ⟨by omega, fun x hx => ⟨by have := (g3 x hx).2.2.1; omega, fun p hp => by have := ((g3 x hx).2.2.2 p hp).2.1; omega⟩⟩
theorem back_J1 {a b : List S40} (ha : Played a) (hb : Played b) : solsticelaw19_TreeBack.J0 a b false = some true := by
 have en : (⟨#[]⟩ : ByteArray).toList = ([] : List UInt8) := by rw [ByteArray.toList_eq]
 have bad : ∀ e : Int, e ≠ 0 → ∀ s : ByteArray, ∀ f : Int, (f = 0 ∨ s = ⟨#[]⟩) → solsticelaw19_TreeBack.J1 a b (⟨#[]⟩ : ByteArray) e s f true = some true := fun e he s f hs => by
  rw [solsticelaw19_TreeBack.J1_eq, if_pos rfl, if_neg he, if_pos en]
  rcases hs with rfl | rfl
  ·rw [if_pos rfl, wakes19, bind_some_]
  ·by_cases h0 : f = 0
   ·rw [if_pos h0, wakes19, bind_some_]
   ·rw [if_neg h0, if_pos en, wakes19, bind_some_]
 have half : ∀ s : ByteArray, ∀ f : Int, f ≠ 0 → solsticelaw19_TreeBack.J1 a b s 0 (⟨#[]⟩ : ByteArray) f true = some true := fun s f hf => by
  rw [solsticelaw19_TreeBack.J1_eq, if_pos rfl, if_pos rfl, if_neg hf, if_pos en, wakes19, bind_some_]
 rw [solsticelaw19_TreeBack.J0_eq, if_neg (by decide)]
 have tb : ∃ s f, tree_Text.F b = some (s, f) ∧ ((f = 0 ∧ tree_Parse.F s = some (b, 0)) ∨ (f ≠ 0 ∧ s = ⟨#[]⟩)) := by
  rcases hb.back with h | h | ⟨s, h, h'⟩
  ·exact ⟨_, _, h, Or.inr ⟨by decide, rfl⟩⟩
  ·exact ⟨_, _, h, Or.inr ⟨by decide, rfl⟩⟩
  ·exact ⟨_, _, h, Or.inl ⟨rfl, h'⟩⟩
 obtain ⟨t, f, h2, h3⟩ := tb
 have hs : f = 0 ∨ t = ⟨#[]⟩ := h3.imp (·.1) (·.2)
 rcases ha.back with h | h | ⟨s, h, h'⟩
 ·rw [h, bind_some_, h2, bind_some_, if_neg (by decide)]
  exact bad 20 (by decide) t f hs
 ·rw [h, bind_some_, h2, bind_some_, if_neg (by decide)]
  exact bad 2 (by decide) t f hs
 ·rw [h, bind_some_, h2, bind_some_, if_pos rfl]
  rcases h3 with ⟨rfl, h3⟩ | ⟨h3, rfl⟩
  ·show solsticelaw19_TreeBack.J1 a b s 0 t 0 false = some true
   rw [solsticelaw19_TreeBack.J1_eq, if_neg (by decide), h', bind_some_, if_pos rfl, keep_comps ha.cmp.1 ha.cmp.2, bind_some_, if_pos (decide_eq_true rfl), keep_comps ha.cmp.1 ha.cmp.2, bind_some_]
   have hst : (s.toList == t.toList) = decide (a = b) := by
    rw [Bool.eq_iff_iff, beq_iff_eq, decide_eq_true_eq, toList_iff]
    constructor
    ·rintro rfl
     rw [h'] at h3
     exact (Prod.mk.inj (Option.some.inj h3)).1
    ·rintro rfl
     rw [h] at h2
     exact (Prod.mk.inj (Option.some.inj h2)).1
   rw [hst, if_pos (by simp), wakes19, bind_some_]
  ·rw [show ((f != 0) = true) from bne_iff_ne.2 h3]
   exact half s f h3
theorem TreeBack_F (a b : List S40) (ha : ∀ c ∈ a, -9223372036854775808 ≤ c.f2 ∧ c.f2 ≤ 9223372036854775807) (hb : ∀ c ∈ b, -9223372036854775808 ≤ c.f2 ∧ c.f2 ≤ 9223372036854775807) : solsticelaw19_TreeBack.F a b = some true := by
 have stop : solsticelaw19_TreeBack.J0 a b true = some true := by rw [solsticelaw19_TreeBack.J0_eq, if_pos rfl]
 rw [solsticelaw19_TreeBack.F_eq]
 rcases heavy19 a with h | ⟨h, h1, h2⟩
 ·rw [h, bind_some_, if_pos rfl, stop]
 ·rw [h, bind_some_, if_neg (by decide)]
  rcases heavy19 b with g | ⟨g, g1, g2⟩
  ·rw [g, bind_some_, stop]
  ·rw [g, bind_some_]
   exact back_J1 ⟨h1, h2, ha⟩ ⟨g1, g2, hb⟩
theorem TreeBack (a b : List S40) {P Q : S40 → Prop} (ha : ∀ c ∈ a, P c ∧ Q c ∧ (Lit.int .i64 c.f2).wf = true) (hb : ∀ c ∈ b, P c ∧ Q c ∧ (Lit.int .i64 c.f2).wf = true) : ∃ k, solsticelaw19_TreeBack.f k a b = some true :=
 lim_some (TreeBack_F a b (fun c hc => wf64_ (ha c hc).2.2) (fun c hc => wf64_ (hb c hc).2.2))
end Go.Proofs.YtdgeokpbedllaaaDoor.Pure
