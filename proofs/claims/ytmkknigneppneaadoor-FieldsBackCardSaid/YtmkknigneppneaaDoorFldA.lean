/- Fields of a line: what the reader makes of blanks, words, quoted texts and what comes behind #; what the printed fields.Split and fields.Join compute. No condition. -/
import Derived.Test.YtmkknigneppneaaDoorStr
import Derived.Test.YtmkknigneppneaaDoorFldTexts
import Derived.Test.YtmkknigneppneaaDoorEFldx1
import Derived.Test.YtmkknigneppneaaDoorPFldx1
import Derived.Test.YtmkknigneppneaaDoorEFldx2
namespace Go.Proofs.YtmkknigneppneaaDoor.Base
open Go.RowKit Go.Proofs.YtmkknigneppneaaDoor.PFld Go.Proofs.YtmkknigneppneaaDoor.FldR Go.Proofs.YtmkknigneppneaaDoorW.PrintWords Go.Proofs.YtmkknigneppneaaDoorW.PrintLast Go.Proofs.YtmkknigneppneaaDoorW.PrintMore
set_option linter.unusedVariables false
set_option linter.unusedSimpArgs false
/-- The reader's steps over a list of bytes: none where the line ends ahead of its end. -/
def runO : List Int → St → Option St
  | [], x => some x
  | c :: l, x => (stp x c).bind (runO l)
theorem runO_app (a b : List Int) : ∀ x : St, runO (a ++ b) x = (runO a x).bind (runO b) := by
  induction a with
  | nil => intro x; rfl
  | cons c a ih =>
    intro x
    rw [List.cons_append, runO, runO]
    cases stp x c with
    | none => rfl
    | some y => exact ih y
/-- The reader, stopped where the line ends. -/
def runL : List Int → St → St
  | [], x => x
  | c :: l, x => match stp x c with
    | none => x
    | some y => runL l y
theorem runL_app {a b : List Int} : ∀ {x y : St}, runO a x = some y → runL (a ++ b) x = runL b y := by
  induction a with
  | nil => intro x y h; injection h with h; rw [h]; rfl
  | cons c a ih =>
    intro x y h
    rw [runO] at h
    obtain ⟨z, h1, h2⟩ := Option.bind_eq_some_iff.1 h
    rw [List.cons_append, runL, h1]
    exact ih h2
theorem run_runL (s : ByteArray) : ∀ (n : Nat) (i : Int) (x : St), 0 ≤ i → i + n = (s.size : Int) → FldR.run s n i x = runL (rest s i) x := by
  intro n
  induction n with
  | zero => intro i x h0 h1; rw [rest_nil (by omega)]; rfl
  | succ n ih =>
    intro i x h0 h1
    rw [rest_cons h0 (by omega), FldR.run, runL]
    cases stp x (bt s i) with
    | none => rfl
    | some y => exact ih (i + 1) y (by omega) (by omega)
theorem ix_mem (s : ByteArray) (c : Int) (h : 0 ≤ c ∧ c ≤ 255) : (0 ≤ FldR.ix s c) ↔ c ∈ bytesOf s := index_mem s.data.toList c h.1 h.2
theorem blank_iff {c : Int} (h : 0 ≤ c ∧ c ≤ 255) : blankB c = true ↔ (c = 32 ∨ c = 9 ∨ c = 13) := by
  unfold blankB
  rw [decide_eq_true_iff, index_mem _ c h.1 h.2]
  show c ∈ [32, 9, 13] ↔ _
  simp
/-- What may stand in a line. -/
def Ln (l : List Int) : Prop := ∀ x ∈ l, x ≠ 0 ∧ x ≠ 10
theorem Split_eq {l : List Int} (hb : Bytes l) (hn : Ln l) (hl : l.length ≤ 600) : fields_Split.f (strOfNums l) = some (if (runL l FldR.init).2.2.2 = true then ([], 6) else ((endS (runL l FldR.init)).1, 0)) := by
  have e := bytes_strOf hb
  unfold fields_Split.f
  rw [if_neg (by rw [size_strOf]; omega), if_neg, run_runL _ _ 0 _ (by omega) (by omega), rest_zero, e]
  rw [ix_mem _ _ (by omega), ix_mem _ _ (by omega), e]
  rintro (h | h)
  · exact (hn _ h).1 rfl
  · exact (hn _ h).2 rfl
/-- A blank. -/
def Bl (c : Int) : Prop := c = 32 ∨ c = 9 ∨ c = 13
/-- A sign of a word. -/
def Wd (c : Int) : Prop := 32 < c ∧ c ≤ 255 ∧ c ≠ 35 ∧ c ≠ 34
theorem stp_blank {c : Int} (h : Bl c) {x : St} (hx : x.2.2.2 = false) : stp x c = some (endS x) := by
  unfold Bl at h
  unfold stp
  rw [if_neg (by omega), if_neg (by rw [hx]; simp), if_neg (by omega), if_pos ((blank_iff (by omega)).2 h)]
theorem stp_word {c : Int} (h0 : 0 ≤ c ∧ c ≤ 255) (h1 : ¬ Bl c) (h2 : c ≠ 34) (h3 : c ≠ 35) (out : List ByteArray) (f : List Int) (op : Bool) : stp (out, f, op, false) c = some (out, f ++ [c], true, false) := by
  unfold stp
  rw [if_neg h2, if_neg (by simp), if_neg h3, if_neg (fun h => h1 ((blank_iff h0).1 h))]
theorem run_blanks (out : List ByteArray) : ∀ b : List Int, (∀ c ∈ b, Bl c) → runO b (out, [], false, false) = some (out, [], false, false) := by
  intro b
  induction b with
  | nil => intro _; rfl
  | cons c b ih =>
    intro h
    rw [runO, stp_blank (h c (List.mem_cons_self ..)) rfl, bind_some_]
    exact ih (fun x hx => h x (List.mem_cons_of_mem _ hx))
theorem run_ends (out : List ByteArray) (f : List Int) {b : List Int} (hb : b ≠ []) (h : ∀ c ∈ b, Bl c) : runO b (out, f, true, false) = some (out ++ [strOfNums f], [], false, false) := by
  cases b with
  | nil => exact absurd rfl hb
  | cons c b =>
    rw [runO, stp_blank (h c (List.mem_cons_self ..)) rfl, bind_some_]
    exact run_blanks (out ++ [strOfNums f]) b (fun x hx => h x (List.mem_cons_of_mem _ hx))
theorem run_word (out : List ByteArray) : ∀ (w : List Int) (f : List Int) (op : Bool), Bytes w → (∀ c ∈ w, ¬ Bl c ∧ c ≠ 34 ∧ c ≠ 35) → runO w (out, f, op, false) = some (out, f ++ w, op || !w.isEmpty, false) := by
  intro w
  induction w with
  | nil => intro f op _ _; simp [runO]
  | cons c w ih =>
    intro f op hb h
    obtain ⟨h1, h2, h3⟩ := h c (List.mem_cons_self ..)
    rw [runO, stp_word hb.head h1 h2 h3, bind_some_, ih _ true hb.tail (fun x hx => h x (List.mem_cons_of_mem _ hx)), List.append_assoc]
    simp
theorem run_quoted (out : List ByteArray) : ∀ (w : List Int) (f : List Int) (op : Bool), (∀ c ∈ w, c ≠ 34) → runO w (out, f, op, true) = some (out, f ++ w, op, true) := by
  intro w
  induction w with
  | nil => intro f op _; simp [runO]
  | cons c w ih =>
    intro f op h
    have h1 : stp (out, f, op, true) c = some (out, f ++ [c], op, true) := by
      unfold stp
      rw [if_neg (h c (List.mem_cons_self ..)), if_pos rfl]
    rw [runO, h1, bind_some_, ih _ op (fun x hx => h x (List.mem_cons_of_mem _ hx)), List.append_assoc]
    rfl
theorem run_hash (out : List ByteArray) (f : List Int) (op : Bool) (l : List Int) : runL (35 :: l) (out, f, op, false) = (out, f, op, false) := by
  have h : stp (out, f, op, false) 35 = none := by
    unfold stp
    rw [if_neg (by omega), if_neg (by simp), if_pos rfl]
  rw [runL, h]
theorem wakes05_ : solsticelaw05_wakes.F = some true := lim_of (solsticelaw05_wakes.isF).mono (k := 40) (by decide +kernel)
end Go.Proofs.YtmkknigneppneaaDoor.Base
