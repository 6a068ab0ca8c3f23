/- The walks of fields.reader: a reader's memory is a struct whose two slices the call itself has made; its methods byte and ends by contract. No condition. -/
import Derived.Test.YtmkknigneppneaaDoorPFldx0
namespace Go.Proofs.YtmkknigneppneaaDoor.FldR
open Go.RowKit Go.Proofs.YtmkknigneppneaaDoorW.PrintWords Go.Proofs.YtmkknigneppneaaDoorW.PrintLast Go.Proofs.YtmkknigneppneaaDoorW.PrintMore
attribute [local go_sem] max2_int min2_int max_two min_two max_three min_three max_four min_four   -- for this text's walks alone
set_option linter.unusedVariables false
set_option linter.unusedSimpArgs false
theorem r_info5 : (Tryd.prog.info? 5).map (fun i => (i.zero, i.size, i.bytes)) = some (some (.int .u8 0), 1, 1) := by kernel_rfl
theorem r_info9 : (Tryd.prog.info? 9).map (fun i => (i.zero, i.size, i.bytes)) = some (some (.string ByteArray.empty), 1, 16) := by kernel_rfl
/-- A reader at block g: what it has read. -/
structure Rdr (B : Nat) (w : World) (g : Nat) (vo vf : Value) (out : List ByteArray) (fld : List Int) (op qu : Bool) : Prop where
  b : w.heap[g]? = some (.cells #[vo, vf, .bool op, .bool qu] 40 (0, 0))
  g : B ≤ g
  o : Kd.R Kd.string 9 w B (fun _ => True) vo out
  f : Kd.R (Kd.int .u8) 5 w B (fun _ => True) vf fld
section
variable {B g : Nat} {w w1 : World} {vo vf v1 : Value} {out : List ByteArray} {fld : List Int} {op qu : Bool}
theorem string_E : (Kd.string).E = [] := rfl
theorem int_E {k : IntKind} : (Kd.int k).E = [] := rfl
theorem Rdr.lt (h : Rdr B w g vo vf out fld op qu) : g < w.heap.size := blk_lt h.b
theorem Rdr.neF (h : Rdr B w g vo vf out fld op qu) : some g ≠ vf.ownBlock := Kd.R_ne h.f h.b (by decide)
theorem Rdr.neO (h : Rdr B w g vo vf out fld op qu) : some g ≠ vo.ownBlock := Kd.R_ne h.o h.b (by decide)
theorem Rdr.set2 (h : Rdr B w g vo vf out fld op qu) (b : Bool) : Rdr B (w.setCell ⟨g, 2, none⟩ (.bool b)) g vo vf out fld b qu :=
  ⟨by simpa using blk_set h.b 2 (.bool b), h.g, Kd.R_set h.o h.b (by decide) _ _, Kd.R_set h.f h.b (by decide) _ _⟩
theorem Rdr.set3 (h : Rdr B w g vo vf out fld op qu) (b : Bool) : Rdr B (w.setCell ⟨g, 3, none⟩ (.bool b)) g vo vf out fld op b :=
  ⟨by simpa using blk_set h.b 3 (.bool b), h.g, Kd.R_set h.o h.b (by decide) _ _, Kd.R_set h.f h.b (by decide) _ _⟩
/-- A row that is another type's than the one that was appended to. -/
theorem R_other {α β : Type} {d : Kd α} {d' : Kd β} {e e' : Nat} {ok ok' : Nat → Prop} {v v' : Value} {xs : List α} {ys : List β} (h : d.R e w B ok v xs) (h' : d'.R e' w B ok' v' ys) (hE : ∀ q, q ∈ e :: d.E → q ≠ e') (hg : w.grownBy w1 v'.ownBlock) : d.R e w1 B ok v xs := by
  obtain ⟨_, inner, ho, _⟩ := h'
  cases hv : v'.ownBlock with
  | none =>
    rw [hv] at hg
    exact Kd.R_grown h hg (fun k _ => by simp)
  | some k =>
    obtain ⟨cells, hc⟩ := own_typed ho k hv
    rw [hv] at hg
    exact Kd.R_mono (Kd.R_grown (Kd.R_types h hc hE) hg (fun j hj e => hj.2 (by injection e))) (fun _ hk => hk.1)
theorem Rdr.fgrow (h : Rdr B w g vo vf out fld op qu) (hg : w.grownBy w1 vf.ownBlock) {fld' : List Int} (hf : Kd.R (Kd.int .u8) 5 w1 B (fun _ => True) v1 fld') : Rdr B (w1.setCell ⟨g, 1, none⟩ v1) g vo v1 out fld' op qu := by
  have hb := blk_grown h.b hg h.neF
  exact ⟨by simpa using blk_set hb 1 v1, h.g, Kd.R_set (R_other h.o h.f (by decide) hg) hb (by decide) _ _, Kd.R_set hf hb (by decide) _ _⟩
theorem Rdr.ogrow (h : Rdr B w g vo vf out fld op qu) (hg : w.grownBy w1 vo.ownBlock) {out' : List ByteArray} (ho : Kd.R Kd.string 9 w1 B (fun _ => True) v1 out') : Rdr B (w1.setCell ⟨g, 0, none⟩ v1) g v1 vf out' fld op qu := by
  have hb := blk_grown h.b hg h.neO
  exact ⟨by simpa using blk_set hb 0 v1, h.g, Kd.R_set ho hb (by decide) _ _, Kd.R_set (R_other h.f h.o (by decide) hg) hb (by decide) _ _⟩
theorem Rdr.nil1 (h : Rdr B w g vo vf out fld op qu) : Rdr B (w.setCell ⟨g, 1, none⟩ (.slice none 0 0)) g vo (.slice none 0 0) out [] op qu :=
  ⟨by simpa using blk_set h.b 1 (.slice none 0 0), h.g, Kd.R_set h.o h.b (by decide) _ _, Kd.R_nil _ _ _ _ _⟩
theorem Rdr.drew (h : Rdr B w g vo vf out fld op qu) : Rdr B w.drew g vo vf out fld op qu :=
  ⟨h.b, h.g, Kd.R_drew h.o, Kd.R_drew h.f⟩
theorem Rdr.drewN (h : Rdr B w g vo vf out fld op qu) (n : Nat) : Rdr B (w.drewN n) g vo vf out fld op qu :=
  ⟨h.b, h.g, Kd.R_drewN h.o n, Kd.R_drewN h.f n⟩
end
end Go.Proofs.YtmkknigneppneaaDoor.FldR
