/- Lines folded and unfolded, as lists of bytes: what is folded is unfolded. No condition. -/
import Derived.Test.YtfiiipjglacejaaDoorFolA
namespace Go.Proofs.YtfiiipjglacejaaDoor.Base
open Go.RowKit Go.Proofs.YtfiiipjglacejaaDoor.PFol Go.Proofs.YtfiiipjglacejaaDoorW.PrintWords Go.Proofs.YtfiiipjglacejaaDoorW.PrintLast Go.Proofs.YtfiiipjglacejaaDoorW.PrintMore
set_option linter.unusedVariables false
set_option linter.unusedSimpArgs false

/-! Unfolded -/
def blk (o : Option Int) : Prop := o = some 32 ∨ o = some 9
instance (o : Option Int) : Decidable (blk o) := by unfold blk; exact inferInstance
def ub : List Int → List Int
  | [] => []
  | [c] => [c]
  | c :: d :: t => if c = 10 ∧ (d = 32 ∨ d = 9) then ub t else c :: ub (d :: t)
theorem ub_skip {d : Int} {t : List Int} (h : d = 32 ∨ d = 9) : ub (10 :: d :: t) = ub t := by rw [ub, if_pos ⟨rfl, h⟩]
theorem ub_put {c : Int} {t : List Int} (h : ¬ (c = 10 ∧ blk t.head?)) : ub (c :: t) = c :: ub t := by
  cases t with
  | nil => rfl
  | cons d t =>
    rw [ub, if_neg]
    intro h'
    refine h ⟨h'.1, ?_⟩
    rw [List.head?_cons]
    rcases h'.2 with e | e
    · exact Or.inl (by rw [e])
    · exact Or.inr (by rw [e])
theorem ub_bytes : ∀ (n : Nat) {l : List Int}, l.length ≤ n → Bytes l → Bytes (ub l)
  | _, [], _, h => h
  | _, [c], _, h => h
  | 0, c :: d :: t, hn, h => by simp at hn
  | n + 1, c :: d :: t, hn, h => by
    rw [List.length_cons, List.length_cons] at hn
    rw [ub]
    split
    · exact ub_bytes n (by omega) h.tail.tail
    · exact Bytes.cons h.head.1 h.head.2 (ub_bytes n (by rw [List.length_cons]; omega) h.tail)
/-- The last one, if it is empty, is left out. -/
def dropE (l : List (List Int)) : List (List Int) := if l.getLast? = some [] then l.dropLast else l
/-- A text's lines; none: a 0D is alone. -/
def unfS (t : List Int) : Option (List (List Int)) := if t.count 13 = cl t then some (dropE (spl 10 (ub (rp t)))) else none
/-- No 0A, no 0D. -/
def Cln (l : List Int) : Prop := (10 : Int) ∉ l ∧ (13 : Int) ∉ l
theorem Cln.app {l m : List Int} (h : Cln (l ++ m)) : Cln l ∧ Cln m := ⟨⟨fun h' => h.1 (List.mem_append_left _ h'), fun h' => h.2 (List.mem_append_left _ h')⟩, ⟨fun h' => h.1 (List.mem_append_right _ h'), fun h' => h.2 (List.mem_append_right _ h')⟩⟩
theorem Cln.tail {c : Int} {l : List Int} (h : Cln (c :: l)) : c ≠ 10 ∧ c ≠ 13 ∧ Cln l := ⟨fun e => h.1 (e ▸ List.mem_cons_self ..), fun e => h.2 (e ▸ List.mem_cons_self ..), fun h' => h.1 (List.mem_cons_of_mem _ h'), fun h' => h.2 (List.mem_cons_of_mem _ h')⟩
theorem cl_put {A T : List Int} (h : Cln A) : cl (A ++ T) = cl T ∧ rp (A ++ T) = A ++ rp T ∧ (A ++ T).count 13 = T.count 13 := by
  induction A with
  | nil => exact ⟨rfl, rfl, rfl⟩
  | cons c A ih =>
    obtain ⟨h1, h2, h3⟩ := h.tail
    obtain ⟨i1, i2, i3⟩ := ih h3
    have hn : ¬ (c = 13 ∧ (A ++ T).head? = some 10) := fun h' => h2 h'.1
    refine ⟨?_, ?_, ?_⟩
    · show (if c = 13 ∧ (A ++ T).head? = some 10 then cl (A ++ T) + 1 else cl (A ++ T)) = _
      rw [if_neg hn, i1]
    · show (if c = 13 ∧ (A ++ T).head? = some 10 then rp (A ++ T) else c :: rp (A ++ T)) = _
      rw [if_neg hn, i2]
      rfl
    · rw [List.cons_append, List.count_cons_of_ne h2, i3]
theorem cl_crlf (T : List Int) : cl (13 :: 10 :: T) = cl T + 1 ∧ rp (13 :: 10 :: T) = 10 :: rp T ∧ (13 :: 10 :: T : List Int).count 13 = T.count 13 + 1 := by
  refine ⟨?_, ?_, ?_⟩
  · show (if _ then (if _ then _ else _) + 1 else _) = _
    rw [if_pos ⟨rfl, rfl⟩, if_neg (fun h => by have := h.1; omega)]
  · show (if _ then (if _ then _ else _) else _) = _
    rw [if_pos ⟨rfl, rfl⟩, if_neg (fun h => by have := h.1; omega)]
  · rw [List.count_cons_self, List.count_cons_of_ne (by omega)]
theorem cl_lf (T : List Int) : cl (10 :: T) = cl T ∧ rp (10 :: T) = 10 :: rp T ∧ (10 :: T : List Int).count 13 = T.count 13 := by
  refine ⟨?_, ?_, ?_⟩
  · show (if _ then _ else _) = _
    rw [if_neg (fun h => by have := h.1; omega)]
  · show (if _ then _ else _) = _
    rw [if_neg (fun h => by have := h.1; omega)]
  · rw [List.count_cons_of_ne (by omega)]
theorem ub_app {A T : List Int} (h : Cln A) : ub (A ++ T) = A ++ ub T := by
  induction A with
  | nil => rfl
  | cons c A ih =>
    obtain ⟨h1, _, h3⟩ := h.tail
    rw [List.cons_append, ub_put (fun h' => h1 h'.1), ih h3]
    rfl
theorem rp_head {T : List Int} (h : T.head? ≠ some 13) : (rp T).head? = T.head? := by
  cases T with
  | nil => rfl
  | cons c T =>
    have hc : c ≠ 13 := fun e => h (by rw [e]; rfl)
    show (if _ then _ else _ : List Int).head? = _
    rw [if_neg (fun h' => hc h'.1)]
    rfl
/-! Folded -/
def onB (c : Int) : Bool := decide (128 ≤ c) && decide (c ≤ 191)
def cutL (l : List Int) (room : Nat) : Nat :=
  if l.length ≤ room then l.length else if onB (l.getD room 0) = false then room else if onB (l.getD (room - 1) 0) = false then room - 1 else if onB (l.getD (room - 2) 0) = false then room - 2 else if onB (l.getD (room - 3) 0) = false then room - 3 else room
theorem cutL_small {l : List Int} {room : Nat} (h : l.length ≤ room) : cutL l room = l.length := if_pos h
theorem cutL_big {l : List Int} {room : Nat} (h : ¬ l.length ≤ room) (hr : 4 ≤ room) : room - 3 ≤ cutL l room ∧ cutL l room ≤ room ∧ cutL l room < l.length := by
  unfold cutL
  rw [if_neg h]
  repeat' split
  all_goals omega
def foldL : Nat → List Int → Nat → List Int
  | 0, l, _ => l ++ [13, 10]
  | n + 1, l, room => if l.length ≤ room then l ++ [13, 10] else l.take (cutL l room) ++ 13 :: 10 :: 32 :: foldL n (l.drop (cutL l room)) 74
/-- Unfolding takes folds out. -/
theorem foldL_cl : ∀ (n : Nat) (l T : List Int) (room : Nat), Cln l → cl (foldL n l room ++ T) + T.count 13 = (foldL n l room ++ T).count 13 + cl T := by
  have base : ∀ l T : List Int, Cln l → cl ((l ++ [13, 10]) ++ T) + T.count 13 = ((l ++ [13, 10]) ++ T).count 13 + cl T := by
    intro l T h
    rw [List.append_assoc]
    obtain ⟨a1, _, a3⟩ := cl_put (T := [13, 10] ++ T) h
    obtain ⟨b1, _, b3⟩ := cl_crlf T
    rw [a1, a3]
    show cl (13 :: 10 :: T) + _ = (13 :: 10 :: T : List Int).count 13 + _
    rw [b1, b3]
    omega
  intro n
  induction n with
  | zero => intro l T room h; exact base l T h
  | succ n ih =>
    intro l T room h
    unfold foldL
    split
    · exact base l T h
    · have hh := h
      rw [← List.take_append_drop (cutL l room) l] at hh
      obtain ⟨c1, c2⟩ := hh.app
      have := ih (l.drop (cutL l room)) T 74 c2
      rw [List.append_assoc]
      obtain ⟨a1, _, a3⟩ := cl_put (T := (13 :: 10 :: 32 :: foldL n (l.drop (cutL l room)) 74) ++ T) c1
      obtain ⟨b1, _, b3⟩ := cl_crlf (32 :: (foldL n (l.drop (cutL l room)) 74 ++ T))
      obtain ⟨d1, _, d3⟩ := cl_put (A := [32]) (T := foldL n (l.drop (cutL l room)) 74 ++ T) ⟨by decide, by decide⟩
      rw [a1, a3]
      show cl (13 :: 10 :: 32 :: (foldL n (l.drop (cutL l room)) 74 ++ T)) + _ = (13 :: 10 :: 32 :: (foldL n (l.drop (cutL l room)) 74 ++ T) : List Int).count 13 + _
      rw [b1, b3]
      rw [List.singleton_append] at d1 d3
      rw [d1, d3]
      omega
theorem foldL_ub : ∀ (n : Nat) (l T : List Int) (room : Nat), Cln l → T.head? ≠ some 13 → ¬ blk T.head? → ub (rp (foldL n l room ++ T)) = l ++ 10 :: ub (rp T) := by
  have base : ∀ l T : List Int, Cln l → T.head? ≠ some 13 → ¬ blk T.head? → ub (rp ((l ++ [13, 10]) ++ T)) = l ++ 10 :: ub (rp T) := by
    intro l T h h1 h2
    rw [List.append_assoc, (cl_put (T := [13, 10] ++ T) h).2.1]
    show ub (l ++ rp (13 :: 10 :: T)) = _
    rw [(cl_crlf T).2.1, ub_app h, ub_put (fun h' => by rw [rp_head h1] at h'; exact h2 h'.2)]
  intro n
  induction n with
  | zero => intro l T room h h1 h2; exact base l T h h1 h2
  | succ n ih =>
    intro l T room h h1 h2
    unfold foldL
    split
    · exact base l T h h1 h2
    · have hh := h
      rw [← List.take_append_drop (cutL l room) l] at hh
      obtain ⟨c1, c2⟩ := hh.app
      rw [List.append_assoc, (cl_put (T := (13 :: 10 :: 32 :: foldL n (l.drop (cutL l room)) 74) ++ T) c1).2.1]
      show ub (l.take (cutL l room) ++ rp (13 :: 10 :: 32 :: (foldL n (l.drop (cutL l room)) 74 ++ T))) = _
      have d := (cl_put (A := [32]) (T := foldL n (l.drop (cutL l room)) 74 ++ T) ⟨by decide, by decide⟩).2.1
      rw [List.singleton_append, List.singleton_append] at d
      rw [(cl_crlf _).2.1, d, ub_app c1, ub_skip (Or.inl rfl), ih _ T 74 c2 h1 h2, ← List.append_assoc, List.take_append_drop]
/-- Lines folded, one behind the other. -/
def foldAll : List (List Int) → List Int
  | [] => []
  | l :: ls => foldL (l.length + 1) l 75 ++ foldAll ls
theorem foldL_head {n : Nat} {l T : List Int} {room : Nat} (h : l ≠ []) (hr : 4 ≤ room) : (foldL n l room ++ T).head? = l.head? := by
  cases l with
  | nil => exact absurd rfl h
  | cons c l =>
    cases n with
    | zero => rfl
    | succ n =>
      unfold foldL
      split
      · rfl
      · rename_i hl
        obtain ⟨k1, k2, k3⟩ := cutL_big hl hr
        obtain ⟨k, hk⟩ : ∃ k, cutL (c :: l) room = k + 1 := ⟨cutL (c :: l) room - 1, by omega⟩
        rw [hk, List.take_succ_cons]
        rfl
/-- A line that may be folded and unfolded. -/
def Lin (l : List Int) : Prop := Cln l ∧ l ≠ [] ∧ ¬ blk l.head?
theorem all_head {ls : List (List Int)} (h : ∀ l ∈ ls, Lin l) : (foldAll ls).head? ≠ some 13 ∧ ¬ blk (foldAll ls).head? := by
  cases ls with
  | nil =>
    refine ⟨by simp [foldAll], ?_⟩
    show ¬ (none = some (32 : Int) ∨ none = some (9 : Int))
    simp
  | cons l ls =>
    obtain ⟨h1, h2, h3⟩ := h l (List.mem_cons_self ..)
    have e : (foldAll (l :: ls)).head? = l.head? := foldL_head h2 (by omega)
    rw [e]
    refine ⟨fun h' => ?_, h3⟩
    cases l with
    | nil => exact h2 rfl
    | cons c l =>
      rw [List.head?_cons, Option.some.injEq] at h'
      exact h1.2 (h' ▸ List.mem_cons_self ..)
def ends : List (List Int) → List Int
  | [] => []
  | l :: ls => l ++ 10 :: ends ls
theorem all_ub : ∀ ls : List (List Int), (∀ l ∈ ls, Lin l) → ub (rp (foldAll ls)) = ends ls ∧ (foldAll ls).count 13 = cl (foldAll ls)
  | [], _ => ⟨rfl, rfl⟩
  | l :: ls, h => by
    obtain ⟨h1, h2, h3⟩ := h l (List.mem_cons_self ..)
    obtain ⟨g1, g2⟩ := all_ub ls (fun m hm => h m (List.mem_cons_of_mem _ hm))
    obtain ⟨a1, a2⟩ := all_head (fun m hm => h m (List.mem_cons_of_mem _ hm))
    have hc := foldL_cl (l.length + 1) l (foldAll ls) 75 h1
    have hu := foldL_ub (l.length + 1) l (foldAll ls) 75 h1 a1 a2
    rw [g1] at hu
    exact ⟨hu, by show (foldL _ l 75 ++ foldAll ls).count 13 = cl (foldL _ l 75 ++ foldAll ls); omega⟩
theorem spl_ends : ∀ ls : List (List Int), (∀ l ∈ ls, (10 : Int) ∉ l) → spl 10 (ends ls) = ls ++ [[]]
  | [], _ => rfl
  | l :: ls, h => by
    have ih := spl_ends ls (fun m hm => h m (List.mem_cons_of_mem _ hm))
    show spl 10 (l ++ 10 :: ends ls) = _
    rw [spl_hit (fun x hx (e : x = 10) => h l (List.mem_cons_self ..) (by rw [← e]; exact hx)), ih]
    rfl
theorem unf_all (ls : List (List Int)) (h : ∀ l ∈ ls, Lin l) : unfS (foldAll ls) = some ls := by
  obtain ⟨g1, g2⟩ := all_ub ls h
  unfold unfS
  rw [if_pos g2, g1, spl_ends ls (fun l hl => (h l hl).1.1)]
  unfold dropE
  rw [if_pos (by simp), List.dropLast_concat]
end Go.Proofs.YtfiiipjglacejaaDoor.Base
