-- A text of the kit's tools for this claim, its remarks left out.
import Derived.Test.YtjanombhdnoemaaGreatDoorRecY
import Derived.Test.YtjanombhdnoemaaGreatDoorRecHv
-- A text of the kit's tools for this claim, its remarks left out.
-- A text of the kit's tools for this claim, its remarks left out.
-- A text of the kit's tools for this claim, its remarks left out.
namespace Go.Proofs.YtjanombhdnoemaaGreatDoor.Base
open Go.RowKit Go.Proofs.YtjanombhdnoemaaGreatDoor.PRec Go.Proofs.YtjanombhdnoemaaGreatDoorW.PrintWords Go.Proofs.YtjanombhdnoemaaGreatDoorW.PrintLast Go.Proofs.YtjanombhdnoemaaGreatDoorW.PrintMore
set_option linter.unusedVariables false
set_option linter.unusedSimpArgs false
structure OkP (p : Prt) : Prop where
 part : paS p.1 p.2.1 = (true, p.2.2)
 eq : (61 : Int) ∉ p.1
 semi : ∀ x ∈ pcT p, x ≠ 59
 big : p.1.map lgI = p.1
 b : Bytes (pcT p)
 len : (pcT p).length ≤ 300000
theorem jn_mem {c : Int} : ∀ {ps : List (List Int)} {x : Int}, x ∈ jn [c] ps → x = c ∨ ∃ p ∈ ps, x ∈ p
 | [], x, h => by cases h
 | [p], x, h => Or.inr ⟨p, List.mem_cons_self .., h⟩
 | p :: q :: ps, x, h => by
  rw [jn] at h
  rcases List.mem_append.1 h with h | h
  ·exact Or.inr ⟨p, List.mem_cons_self .., h⟩
  ·rcases List.mem_append.1 h with h | h
   ·rw [List.mem_singleton] at h; exact Or.inl h
   ·rcases jn_mem h with h | ⟨r, hr, h⟩
    ·exact Or.inl h
    ·exact Or.inr ⟨r, List.mem_cons_of_mem _ hr, h⟩
theorem OkP.mk' {nm v : List Int} {u : Upd} (hp : paS nm v = (true, u)) (hn : ∀ x ∈ nm, 65 ≤ x ∧ x ≤ 90) (hl : nm.length ≤ 100) (hv : Bytes v) (hs : ∀ x ∈ v, x ≠ 59) (hvl : v.length ≤ 290000) : OkP (nm, v, u) := by
 have hb : Bytes nm := fun x hx => by have := hn x hx; omega
 refine ⟨hp, fun h => by have := hn 61 h; omega, fun x hx => ?_, ?_, Bytes.app hb (Bytes.cons (by omega) (by omega) hv), ?_⟩
 ·rcases List.mem_append.1 hx with h | h
  ·have := hn x h; omega
  ·rcases List.mem_cons.1 h with h | h
   ·omega
   ·exact hs x h
 ·conv => rhs; rw [← List.map_id nm]
  refine List.map_congr_left fun x hx => ?_
  have := hn x hx
  unfold lgI
  rw [if_neg (by omega)]
  rfl
 ·show (nm ++ 61 :: v).length ≤ _
  rw [List.length_append, List.length_cons]; omega
theorem pt_find : ∀ p ∈ ptL, (ptL.find? fun q => decide ((bytesOf q.1).map smc = (bytesOf p.1).map smc)) = some p := by
 intro p hp
 simp only [ptL, List.mem_cons, List.not_mem_nil, or_false] at hp
 rcases hp with h | h | h | h | h | h | h | h <;> (subst h; rfl)
theorem pt_big : ∀ p ∈ ptL, (∀ x ∈ bytesOf p.1, 65 ≤ x ∧ x ≤ 90) ∧ (bytesOf p.1).length ≤ 100 := by
 intro p hp
 simp only [ptL, List.mem_cons, List.not_mem_nil, or_false] at hp
 rcases hp with h | h | h | h | h | h | h | h <;> (subst h; decide +kernel)
theorem comma_len {α : Type} (f : α → List Int) (m n : Nat) {l : List α} (h : ∀ x ∈ l, (f x).length ≤ m) (hl : l.length ≤ n) : (jn [44] (l.map f)).length ≤ n * (m + 1) := by
 have hj := jn_length [44] m (l.map f) (by
  intro x hx
  obtain ⟨y, hy, rfl⟩ := List.mem_map.1 hx
  exact h y hy)
 rw [List.length_map, List.length_singleton] at hj
 have := Nat.mul_le_mul_right (m + 1) hl
 omega
theorem jn44_bytes {α : Type} (f : α → List Int) {l : List α} (h : ∀ x, Bytes (f x)) : Bytes (jn [44] (l.map f)) := jn_bytes (Bytes.cons (by omega) (by omega) Bytes.nil) _ (fun x hx => by
 obtain ⟨y, _, rfl⟩ := List.mem_map.1 hx
 exact h y)
theorem lst_ok {x : RV} (h : Rt x) (hz : Sz x) {p : ByteArray × Nat × Bool} (hp : p ∈ ptL) {q : Prt} (hq : q ∈ lsP p (x.l p.2.1)) : OkP q := by
 unfold lsP at hq
 split at hq
 ·cases hq
 ·rename_i hne
  rw [List.mem_singleton] at hq
  subst hq
  have hs := sml_of h hz hp
  refine OkP.mk' ?_ (pt_big p hp).1 (pt_big p hp).2 (jn44_bytes sgn sgn_bytes) (fun y hy => ?_) ?_
  ·unfold paS
   rw [pt_find p hp]
   unfold paE
   dsimp only
   rw [nsS_sgn hne (h.l p hp)]
  ·rcases jn_mem hy with h | ⟨r, hr, h⟩
   ·omega
   ·obtain ⟨n, _, rfl⟩ := List.mem_map.1 hr
    exact sgn_ne n 59 (Or.inr (Or.inl (by omega))) y h
  ·have := comma_len sgn 21 10000 (fun n hn => sgn_len (hs.1 n hn)) hs.2
   omega
theorem nm_none {nm : List Int} (h : (ptL.find? fun q => decide ((bytesOf q.1).map smc = nm.map smc)) = none) (v : List Int) : paS nm v = prS nm v := by
 unfold paS
 rw [h]
 rfl
theorem txt_ne (n : Int) (hn : 0 ≤ n) (c : Int) (hc : c < 48 ∨ 57 < c) : ∀ x ∈ txt n 1, x ≠ c := by
 rw [txt1 hn]
 exact dig_ne (digs_dig _) c hc
theorem P3_ok {x : RV} (h : Rt x) (hz : Sz x) : ∀ p ∈ P3 x, OkP p := by
 intro p hp
 unfold P3 at hp
 simp only [List.mem_append] at hp
 rcases hp with hp | hp | hp | hp | hp | hp | hp | hp
 ·rw [List.mem_singleton] at hp
  subst hp
  have hf := h.f
  have hi : x.n 0 - 1 = 0 ∨ x.n 0 - 1 = 1 ∨ x.n 0 - 1 = 2 ∨ x.n 0 - 1 = 3 ∨ x.n 0 - 1 = 4 ∨ x.n 0 - 1 = 5 ∨ x.n 0 - 1 = 6 := by omega
  have hall : (∀ y ∈ bytesOf (rdOf ByteArray.empty FRs (x.n 0 - 1)), y ≠ 59) ∧ (bytesOf (rdOf ByteArray.empty FRs (x.n 0 - 1))).length ≤ 290000 := by
   rcases hi with e | e | e | e | e | e | e <;> (rw [e]; decide +kernel)
  refine OkP.mk' ?_ (by decide) (by decide) (bytes_of _) hall.1 hall.2
  rw [nm_none (by rfl), prS, show wdS NMs nF = (0, true) by decide +kernel, if_pos rfl, if_pos rfl, wdS_fr (by omega)]
  dsimp only
  congr 2
  omega
 ·split at hp
  ·rename_i hc
   rw [List.mem_singleton] at hp
   subst hp
   have hi := h.i
   have hl := txt1_len (n := x.n 1) (by omega)
   refine OkP.mk' ?_ (by decide) (by decide) (txt_bytes _ _) (txt_ne _ (by omega) 59 (Or.inr (by omega))) (by omega)
   rw [nm_none (by rfl), prS, show wdS NMs nI = (1, true) by decide +kernel, if_pos rfl, if_neg (by decide), if_pos rfl, nmS_pos false (by omega)]
  ·cases hp
 ·split at hp
  ·rename_i hc
   rw [List.mem_singleton] at hp
   subst hp
   have hi := h.c
   have hl := txt1_len (n := x.n 2) (by omega)
   refine OkP.mk' ?_ (by decide) (by decide) (txt_bytes _ _) (txt_ne _ (by omega) 59 (Or.inr (by omega))) (by omega)
   rw [nm_none (by rfl), prS, show wdS NMs nC = (2, true) by decide +kernel, if_pos rfl, if_neg (by decide), if_neg (by decide), if_pos rfl, nmS_pos false (by omega), if_pos rfl, decide_eq_true hc]
  ·cases hp
 ·split at hp
  ·rename_i hc
   rw [List.mem_singleton] at hp
   subst hp
   obtain ⟨_, h2, h3, h4, h5⟩ := time_ok (t := x.t) x.z (h.u hc).2
   refine OkP.mk' ?_ (by decide) (by decide) h4 ?_ (by omega)
   ·rw [nm_none (by rfl), prS, show wdS NMs nU = (3, true) by decide +kernel, if_pos rfl, if_neg (by decide), if_neg (by decide), if_neg (by decide), if_pos rfl, h2]
    rfl
   ·exact h5 59 (Or.inr (by omega))
  ·cases hp
 ·obtain ⟨q, hq, hp⟩ := List.mem_flatMap.1 hp
  exact lst_ok h hz (List.mem_of_mem_take hq) hp
 ·split at hp
  ·cases hp
  ·rename_i hc
   rw [List.mem_singleton] at hp
   subst hp
   have hl := comma_len txD 23 10000 (fun y hy => txD_len (h.d y hy).1 (by have := (h.d y hy).2; omega)) (l := x.d) (by have := hz.2; omega)
   refine OkP.mk' ?_ (by decide) (by decide) (jn44_bytes txD txD_bytes) (fun y hy => ?_) (by omega)
   ·rw [nm_none (by rfl), prS, show wdS NMs nD = (4, true) by decide +kernel, if_pos rfl, if_neg (by decide), if_neg (by decide), if_neg (by decide), if_neg (by decide), if_pos rfl, bsS_txD hc h.d]
   ·rcases jn_mem hy with h' | ⟨r, hr, h'⟩
    ·omega
    ·obtain ⟨n, hn, rfl⟩ := List.mem_map.1 hr
     unfold txD at h'
     rcases List.mem_append.1 h' with h' | h'
     ·split at h'
      ·cases h'
      ·exact sgn_ne _ 59 (Or.inr (Or.inl (by omega))) y h'
     ·exact wdT_ne (h.d n hn).1 59 (by omega) y h'
 ·obtain ⟨q, hq, hp⟩ := List.mem_flatMap.1 hp
  exact lst_ok h hz (List.mem_of_mem_drop hq) hp
 ·split at hp
  ·cases hp
  ·rw [List.mem_singleton] at hp
   subst hp
   have hw := wdT_len h.w
   refine OkP.mk' ?_ (by decide) (by decide) (bytes_of _) (wdT_ne h.w 59 (by omega)) (by omega)
   rw [nm_none (by rfl), prS, show wdS NMs nW = (5, true) by decide +kernel, if_pos rfl, if_neg (by decide), if_neg (by decide), if_neg (by decide), if_neg (by decide), if_neg (by decide), wdS_wd h.w]
def lgS (A : List Int) : ByteArray := strOfNums (A.map lgI)
def prsR : List (List Int) → RV → List ByteArray → Option (RV × List ByteArray)
 | [], x, y => some (x, y)
 | p :: ps, x, y => match cutS 61 p with
  | none => none
  | some (A, B) => if (paS A B).1 = true then prsR ps (x.upd (paS A B).2) (y ++ [lgS A]) else none
noncomputable def pend : Option (RV × List ByteArray) → Option (RV × Int)
 | none => some (RV.zero, 21)
 | some (x, y) => pa_end.F x y
theorem parse_L0 (xs : List ByteArray) (hx : ∀ x ∈ xs, x.size ≤ 10000000) (hl : xs.length ≤ 10000001) : ∀ (n : Nat) (i : Int) (x : RV) (y : List ByteArray), n = xs.length - i.toNat → 0 ≤ i → i ≤ (xs.length : Int) → (y.length : Int) ≤ i → recur_Parse.L0 xs x y i = pend (prsR ((xs.drop i.toNat).map bytesOf) x y) := by
 intro n
 induction n with
 | zero =>
  intro i x y hn h0 h1 hy
  rw [recur_Parse.L0_eq, if_neg (by omega), drop_nil_ (by omega)]
  rfl
 | succ n ih =>
  intro i x y hn h0 h1 hy
  have hi : i < (xs.length : Int) := by omega
  have hs := hx _ (rdOf_mem ByteArray.empty h0 hi)
  rw [recur_Parse.L0_eq, if_pos hi, if_pos h0, drop_cons_ ByteArray.empty h0 hi, List.map_cons, prsR]
  generalize rdOf ByteArray.empty xs i = s at hs
  have hb := bytes_of s
  rw [show (⟨#[61]⟩ : ByteArray) = ⟨#[(61 : UInt8)]⟩ from rfl, Cut_eq s 61 (by omega), bind_some_, show (((61 : UInt8).toNat : Nat) : Int) = 61 from rfl]
  cases hc : cutS 61 (bytesOf s) with
  | none => rfl
  | some q =>
   obtain ⟨A, B⟩ := q
   obtain ⟨e, _⟩ := cutS_some hc
   rw [e] at hb
   have hz := bytesOf_length s
   rw [e, List.length_append, List.length_cons] at hz
   dsimp only
   rw [if_pos rfl, part_eq _ _ (by rw [size_strOf]; omega), bind_some_, bytes_strOf hb.left, bytes_strOf hb.right.tail]
   by_cases h : (paS A B).1 = true
   ·rw [if_pos h, if_pos h]
    unfold recur_large.f
    rw [size_strOf, if_pos (by omega), bind_some_, if_pos (by omega), wrap64_id (by omega) (by omega), bytes_strOf hb.left, ih (i + 1) _ _ (by omega) (by omega) (by omega) (by rw [List.length_append, List.length_singleton]; omega)]
    rfl
   ·rw [if_neg h, if_neg h]
    rfl
def encV : Option RV → Int × Int × Int × Bool × Int × Bool × (List Int) × (List Int) × (List Int) × (List (S38)) × (List Int) × (List Int) × (List Int) × (List Int) × (List Int) × Int × Int
 | some x => x.flat 0
 | none => RV.zero.flat 21
def prsE : Option (RV × List ByteArray) → Option RV
 | some (x, y) => if dup [] y = true then none else if okV x = true then some x else none
 | none => none
def prsS (l : List Int) : Option RV := prsE (prsR (spl 59 l) RV.one [])
theorem end_eq (x : RV) (y : List ByteArray) (hx : RowV x) (hy : ∀ s ∈ y, s.size ≤ 140737488351232) (hl : y.length < 1000000000) : ((pa_end.F x y).bind fun p => some (p.1.flat p.2)) = some (encV (prsE (some (x, y)))) := by
 rw [pa_end.F_eq, twS_eq y hy hl, bind_some_]
 unfold prsE
 by_cases h : dup [] y = true
 ·rw [if_pos h]
  dsimp only
  rw [if_pos h]
  rfl
 ·rw [if_neg h]
  dsimp only
  rw [if_neg h, Check_eq _ _ _ _ _ _ _ _ _ _ _ _ _ _ _ _ hx, bind_some_]
  unfold okV
  split
  ·rfl
  ·rfl
def UpdOk : Upd → Prop
 | .lst _ l => RowI l
 | .til t _ => In64 t
 | .dys d => (∀ x ∈ d, In38 x) ∧ Len9 d
 | _ => True
theorem in0 : In64 0 := by unfold In64; decide
theorem RowI.nil : RowI [] := ⟨fun x h => absurd h List.not_mem_nil, by unfold Len9; decide⟩
theorem dnil : (∀ y ∈ ([] : List S38), In38 y) ∧ Len9 ([] : List S38) := ⟨fun x h => absurd h List.not_mem_nil, by unfold Len9; decide⟩
structure RowX (x : RV) : Prop where
 t : In64 x.t
 l : ∀ c, RowI (x.l c)
 d : (∀ y ∈ x.d, In38 y) ∧ Len9 x.d
theorem RowX.v {x : RV} (h : RowX x) : RowV x := ⟨h.t, h.l 6, h.l 7, h.l 8, h.d.1, h.d.2, h.l 10, h.l 11, h.l 12, h.l 13, h.l 14⟩
theorem RowX.one : RowX RV.one := ⟨in0, fun c => RowI.nil, dnil⟩
theorem RowX.upd {x : RV} {u : Upd} (h : RowX x) (hu : UpdOk u) : RowX (x.upd u) := by
 cases u with
 | no => exact h
 | lst c l =>
  refine ⟨h.t, fun n => ?_, h.d⟩
  show RowI (if n = c then l else x.l n)
  split
  ·exact hu
  ·exact h.l n
 | num c n => exact ⟨h.t, h.l, h.d⟩
 | til t b => exact ⟨hu, h.l, h.d⟩
 | dys d => exact ⟨h.t, h.l, hu⟩
theorem nmS_bd (sg : Bool) (l : List Int) : In64 (nmS sg l).1 := by
 cases l with
 | nil => exact in0
 | cons c r =>
  have h1 := parsS_bd r
  have h2 := parsS_bd (c :: r)
  unfold In64
  rw [nmS]
  split
  ·dsimp only
   split <;> omega
  ·dsimp only
   omega
theorem nsR_row {sg : Bool} : ∀ {ps : List (List Int)} {l : List Int}, nsR sg ps = some l → (∀ x ∈ l, In64 x) ∧ l.length = ps.length
 | [], l, h => by
  obtain rfl := Option.some.inj h
  exact ⟨fun x h => absurd h List.not_mem_nil, rfl⟩
 | p :: ps, l, h => by
  rw [nsR] at h
  split at h
  ·obtain ⟨l', h1, rfl⟩ := Option.map_eq_some_iff.1 h
   obtain ⟨g1, g2⟩ := nsR_row h1
   refine ⟨fun x hx => ?_, by rw [List.length_cons, List.length_cons, g2]⟩
   rcases List.mem_cons.1 hx with rfl | hx
   ·exact nmS_bd sg p
   ·exact g1 x hx
  ·cases h
theorem nsS_row (sg : Bool) {v : List Int} (hv : v.length ≤ 10000000) : RowI (nsS sg v).1 := by
 have hc := spl_count 44 v
 unfold nsS
 cases h : nsR sg (spl 44 v) with
 | none => exact RowI.nil
 | some l =>
  obtain ⟨g1, g2⟩ := nsR_row h
  refine ⟨g1, ?_⟩
  show ([] ++ l).length < _
  rw [List.nil_append]
  omega
theorem bdS_row (l : List Int) : In64 (bdS l).1 ∧ In64 (bdS l).2.1 := by
 have h1 := nmS_bd true (l.take (l.length - 2))
 have h2 := wdS_bd WDs (l.drop (l.length - 2))
 have h3 : WDs.length = 7 := rfl
 unfold In64 at *
 unfold bdS
 split
 ·dsimp only; omega
 ·split
  ·dsimp only; omega
  ·dsimp only; omega
theorem bsR_row : ∀ {ps : List (List Int)} {l : List S38}, bsR ps = some l → (∀ x ∈ l, In38 x) ∧ l.length = ps.length
 | [], l, h => by
  obtain rfl := Option.some.inj h
  exact ⟨fun x h => absurd h List.not_mem_nil, rfl⟩
 | p :: ps, l, h => by
  rw [bsR] at h
  split at h
  ·obtain ⟨l', h1, rfl⟩ := Option.map_eq_some_iff.1 h
   obtain ⟨g1, g2⟩ := bsR_row h1
   refine ⟨fun x hx => ?_, by rw [List.length_cons, List.length_cons, g2]⟩
   rcases List.mem_cons.1 hx with rfl | hx
   ·exact bdS_row p
   ·exact g1 x hx
  ·cases h
theorem bsS_row {v : List Int} (hv : v.length ≤ 10000000) : (∀ x ∈ (bsS v).1, In38 x) ∧ Len9 (bsS v).1 := by
 have hc := spl_count 44 v
 unfold bsS
 cases h : bsR (spl 44 v) with
 | none => exact dnil
 | some l =>
  obtain ⟨g1, g2⟩ := bsR_row h
  refine ⟨g1, ?_⟩
  show ([] ++ l).length < _
  rw [List.nil_append]
  omega
theorem tm_row (v : List Int) : In64 (encT (ptS v)).1 := by
 unfold ptS ptB
 split
 ·generalize hn : nums [4, 2, 2, 2, 2, 2] ((cutz v).1.take 8 ++ (cutz v).1.drop 9) = o
  cases o with
  | none => exact in0
  | some l =>
   obtain ⟨y, m, d, h, i, s, rfl, hb⟩ := six_in hn
   unfold ptV
   dsimp only
   split
   ·rename_i ok
    have := dn_range ok.2.1
    unfold In64 encT
    dsimp only
    omega
   ·exact in0
 ·exact in0
theorem paS_row (nm : List Int) {v : List Int} (hv : v.length ≤ 10000000) : UpdOk (paS nm v).2 := by
 unfold paS
 cases ptL.find? fun p => decide ((bytesOf p.1).map smc = nm.map smc) with
 | some p => exact nsS_row _ hv
 | none =>
  show UpdOk (prS nm v).2
  unfold prS
  repeat' split
  all_goals first | exact trivial | exact tm_row v | exact bsS_row hv
theorem prsR_row : ∀ {ps : List (List Int)} {x x' : RV} {y y' : List ByteArray}, (∀ p ∈ ps, p.length ≤ 10000000) → RowX x → (∀ s ∈ y, s.size ≤ 10000000) → prsR ps x y = some (x', y') → RowX x' ∧ (∀ s ∈ y', s.size ≤ 10000000) ∧ y'.length = y.length + ps.length
 | [], x, x', y, y', hp, hx, hy, h => by
  simp only [prsR, Option.some.injEq, Prod.mk.injEq] at h
  obtain ⟨rfl, rfl⟩ := h
  exact ⟨hx, hy, rfl⟩
 | p :: ps, x, x', y, y', hp, hx, hy, h => by
  rw [prsR] at h
  have hpl := hp p (List.mem_cons_self ..)
  split at h
  ·cases h
  ·rename_i A B hc
   obtain ⟨e, _⟩ := cutS_some hc
   rw [e, List.length_append, List.length_cons] at hpl
   split at h
   ·obtain ⟨g1, g2, g3⟩ := prsR_row (fun q hq => hp q (List.mem_cons_of_mem _ hq)) (hx.upd (paS_row A (v := B) (by omega))) (fun s hs => by
     rcases List.mem_append.1 hs with hs | hs
     ·exact hy s hs
     ·rw [List.mem_singleton] at hs
      subst hs
      unfold lgS
      rw [size_strOf, List.length_map]
      omega) h
    exact ⟨g1, g2, by rw [g3, List.length_append, List.length_singleton, List.length_cons]; omega⟩
   ·cases h
theorem Parse_eq (s : ByteArray) (hs : s.size ≤ 10000000) : recur_Parse.F s = some (encV (prsS (bytesOf s))) := by
 have hc := spl_count 59 (bytesOf s)
 rw [bytesOf_length] at hc
 have hy : ∀ p ∈ spl 59 (bytesOf s), p.length ≤ 10000000 := by
  intro p hp
  have := spl_len _ p hp
  rw [bytesOf_length] at this
  omega
 have hx : ∀ x ∈ (spl 59 (bytesOf s)).map strOfNums, x.size ≤ 10000000 := by
  intro x hx
  obtain ⟨p, hp, rfl⟩ := List.mem_map.1 hx
  rw [size_strOf]
  exact hy p hp
 rw [recur_Parse.F_eq, show (⟨#[59]⟩ : ByteArray) = ⟨#[(59 : UInt8)]⟩ from rfl, split_f_eq 59 (by omega), bind_some_, show (((59 : UInt8).toNat : Nat) : Int) = 59 from rfl, parse_L0 _ hx (by rw [List.length_map]; omega) _ 0 RV.one [] rfl (by omega) (by omega) (by simp), show List.drop (0 : Int).toNat ((spl 59 (bytesOf s)).map strOfNums) = (spl 59 (bytesOf s)).map strOfNums from rfl, spl_back (bytes_of s)]
 unfold prsS
 cases h : prsR (spl 59 (bytesOf s)) RV.one [] with
 | none => rfl
 | some q =>
  obtain ⟨x, y⟩ := q
  obtain ⟨g1, g2, g3⟩ := prsR_row hy RowX.one (fun s hs => by cases hs) h
  exact end_eq x y g1.v (fun s hs => by have := g2 s hs; omega) (by rw [g3, List.length_nil]; omega)
end Go.Proofs.YtjanombhdnoemaaGreatDoor.Base

namespace Go.Proofs.YtjanombhdnoemaaGreatDoor.Base
open Go.RowKit Go.Proofs.YtjanombhdnoemaaGreatDoor.PRec Go.Proofs.YtjanombhdnoemaaGreatDoorW.PrintWords Go.Proofs.YtjanombhdnoemaaGreatDoorW.PrintLast Go.Proofs.YtjanombhdnoemaaGreatDoorW.PrintMore
set_option linter.unusedVariables false
set_option linter.unusedSimpArgs false
def updP (z : RV) (p : Prt) : RV := z.upd p.2.2
theorem prs_ok : ∀ {ps : List Prt} {x : RV} {y : List ByteArray}, (∀ p ∈ ps, OkP p) → prsR (ps.map pcT) x y = some (ps.foldl updP x, y ++ ps.map (fun p => strOfNums p.1))
 | [], x, y, _ => by rw [List.map_nil, prsR, List.map_nil, List.append_nil]; rfl
 | p :: ps, x, y, h => by
  have hp := h p (List.mem_cons_self ..)
  have hc : cutS 61 (pcT p) = some (p.1, p.2.1) := cutS_hit hp.eq
  rw [List.map_cons, prsR, hc]
  dsimp only
  rw [hp.part, if_pos rfl, prs_ok (fun q hq => h q (List.mem_cons_of_mem _ hq)), List.map_cons, List.append_assoc, lgS, hp.big]
  rfl
theorem fold_if {c : Prop} [Decidable c] (p : Prt) (z : RV) : (if c then [p] else []).foldl updP z = if c then z.upd p.2.2 else z := by split <;> rfl
theorem fold_if' {c : Prop} [Decidable c] (p : Prt) (z : RV) : (if c then [] else [p]).foldl updP z = if c then z else z.upd p.2.2 := by split <;> rfl
theorem fold_ls (p : ByteArray × Nat × Bool) (l : List Int) (z : RV) : (lsP p l).foldl updP z = if l = [] then z else z.upd (.lst p.2.1 l) := by unfold lsP; exact fold_if' _ _
section
variable {c : Prop} [Decidable c] (a b : RV) (k : Nat)
theorem n_ite : (if c then a else b : RV).n k = if c then a.n k else b.n k := by split <;> rfl
theorem u_ite : (if c then a else b : RV).u = if c then a.u else b.u := by split <;> rfl
theorem t_ite : (if c then a else b : RV).t = if c then a.t else b.t := by split <;> rfl
theorem z_ite : (if c then a else b : RV).z = if c then a.z else b.z := by split <;> rfl
theorem d_ite : (if c then a else b : RV).d = if c then a.d else b.d := by split <;> rfl
theorem l_ite : (if c then a else b : RV).l k = if c then a.l k else b.l k := by split <;> rfl
variable (j : Nat) (i t : Int) (m : List Int) (d : List S38) (e : Bool)
theorem n_num : (a.upd (.num j i)).n k = if k = j then i else a.n k := rfl
theorem n_lst : (a.upd (.lst j m)).n k = a.n k := rfl
theorem n_til : (a.upd (.til t e)).n k = a.n k := rfl
theorem n_dys : (a.upd (.dys d)).n k = a.n k := rfl
theorem l_num : (a.upd (.num j i)).l k = a.l k := rfl
theorem l_lst : (a.upd (.lst j m)).l k = if k = j then m else a.l k := rfl
theorem l_til : (a.upd (.til t e)).l k = a.l k := rfl
theorem l_dys : (a.upd (.dys d)).l k = a.l k := rfl
theorem d_num : (a.upd (.num j i)).d = a.d := rfl
theorem d_lst : (a.upd (.lst j m)).d = a.d := rfl
theorem d_til : (a.upd (.til t e)).d = a.d := rfl
theorem d_dys : (a.upd (.dys d)).d = d := rfl
theorem u_num : (a.upd (.num j i)).u = a.u := rfl
theorem u_lst : (a.upd (.lst j m)).u = a.u := rfl
theorem u_til : (a.upd (.til t e)).u = true := rfl
theorem u_dys : (a.upd (.dys d)).u = a.u := rfl
theorem t_num : (a.upd (.num j i)).t = a.t := rfl
theorem t_lst : (a.upd (.lst j m)).t = a.t := rfl
theorem t_til : (a.upd (.til t e)).t = t := rfl
theorem t_dys : (a.upd (.dys d)).t = a.t := rfl
theorem z_num : (a.upd (.num j i)).z = a.z := rfl
theorem z_lst : (a.upd (.lst j m)).z = a.z := rfl
theorem z_til : (a.upd (.til t e)).z = e := rfl
theorem z_dys : (a.upd (.dys d)).z = a.z := rfl
end
noncomputable def fin (x : RV) : RV := (P3 x).foldl updP RV.one
theorem fin_eq (x : RV) : fin x = (if x.n 15 = 1 then id else fun z : RV => z.upd (.num 15 (x.n 15)))
  ((if x.l 14 = [] then id else fun z : RV => z.upd (.lst 14 (x.l 14))) ((if x.l 6 = [] then id else fun z : RV => z.upd (.lst 6 (x.l 6))) ((if x.l 7 = [] then id else fun z : RV => z.upd (.lst 7 (x.l 7))) ((if x.l 8 = [] then id else fun z : RV => z.upd (.lst 8 (x.l 8)))
  ((if x.d = [] then id else fun z : RV => z.upd (.dys x.d))
  ((if x.l 10 = [] then id else fun z : RV => z.upd (.lst 10 (x.l 10))) ((if x.l 11 = [] then id else fun z : RV => z.upd (.lst 11 (x.l 11))) ((if x.l 12 = [] then id else fun z : RV => z.upd (.lst 12 (x.l 12))) ((if x.l 13 = [] then id else fun z : RV => z.upd (.lst 13 (x.l 13)))
  ((if x.u = true then fun z : RV => z.upd (.til x.t x.z) else id) ((if x.n 2 > 0 then fun z : RV => z.upd (.num 2 (x.n 2)) else id) ((if x.n 1 > 1 then fun z : RV => z.upd (.num 1 (x.n 1)) else id) (RV.one.upd (.num 0 (x.n 0))))))))))))))) := by
 have e1 : ∀ (c : Prop) [Decidable c] (f : RV → RV) (z : RV), (if c then id else f) z = if c then z else f z := by intro c _ f z; split <;> rfl
 have e2 : ∀ (c : Prop) [Decidable c] (f : RV → RV) (z : RV), (if c then f else id) z = if c then f z else z := by intro c _ f z; split <;> rfl
 have f1 : ∀ z : RV, ((ptL.take 4).flatMap (fun p => lsP p (x.l p.2.1))).foldl updP z = ((lsP ptL[3] (x.l 10)).foldl updP ((lsP ptL[2] (x.l 11)).foldl updP ((lsP ptL[1] (x.l 12)).foldl updP ((lsP ptL[0] (x.l 13)).foldl updP z)))) := by
  intro z
  show (lsP ptL[0] (x.l 13) ++ (lsP ptL[1] (x.l 12) ++ (lsP ptL[2] (x.l 11) ++ (lsP ptL[3] (x.l 10) ++ [])))).foldl updP z = _
  rw [List.foldl_append, List.foldl_append, List.foldl_append, List.append_nil]
 have f2 : ∀ z : RV, ((ptL.drop 4).flatMap (fun p => lsP p (x.l p.2.1))).foldl updP z = ((lsP ptL[7] (x.l 14)).foldl updP ((lsP ptL[6] (x.l 6)).foldl updP ((lsP ptL[5] (x.l 7)).foldl updP ((lsP ptL[4] (x.l 8)).foldl updP z)))) := by
  intro z
  show (lsP ptL[4] (x.l 8) ++ (lsP ptL[5] (x.l 7) ++ (lsP ptL[6] (x.l 6) ++ (lsP ptL[7] (x.l 14) ++ [])))).foldl updP z = _
  rw [List.foldl_append, List.foldl_append, List.foldl_append, List.append_nil]
 simp only [e1, e2]
 unfold fin P3
 rw [List.foldl_append, List.foldl_append, List.foldl_append, List.foldl_append, List.foldl_append, List.foldl_append, List.foldl_append, f1, f2, fold_if, fold_if, fold_if, fold_if', fold_if', fold_ls, fold_ls, fold_ls, fold_ls, fold_ls, fold_ls, fold_ls, fold_ls]
 rfl
structure Sm (x y : RV) : Prop where
 n0 : x.n 0 = y.n 0
 n1 : x.n 1 = y.n 1
 n2 : x.n 2 = y.n 2
 n15 : x.n 15 = y.n 15
 u : x.u = y.u
 t : x.t = y.t
 z : x.z = y.z
 d : x.d = y.d
 l6 : x.l 6 = y.l 6
 l7 : x.l 7 = y.l 7
 l8 : x.l 8 = y.l 8
 l10 : x.l 10 = y.l 10
 l11 : x.l 11 = y.l 11
 l12 : x.l 12 = y.l 12
 l13 : x.l 13 = y.l 13
 l14 : x.l 14 = y.l 14
theorem Sm.flat {x y : RV} (h : Sm x y) (e : Int) : x.flat e = y.flat e := by
 unfold RV.flat
 rw [h.n0, h.n1, h.n2, h.n15, h.u, h.t, h.z, h.d, h.l6, h.l7, h.l8, h.l10, h.l11, h.l12, h.l13, h.l14]
theorem Sm.ok {x y : RV} (h : Sm x y) : okV x = okV y := by
 unfold okV
 rw [h.n0, h.n1, h.n2, h.n15, h.u, h.t, h.z, h.d, h.l6, h.l7, h.l8, h.l10, h.l11, h.l12, h.l13, h.l14]
theorem fin_sm {x : RV} (h : Rt x) : Sm (fin x) x := by
 have e1 : ∀ (c : Prop) [Decidable c] (f : RV → RV) (z : RV), (if c then id else f) z = if c then z else f z := by intro c _ f z; split <;> rfl
 have e2 : ∀ (c : Prop) [Decidable c] (f : RV → RV) (z : RV), (if c then f else id) z = if c then f z else z := by intro c _ f z; split <;> rfl
 have hi := h.i
 have hc := h.c
 have q1 : (if x.n 1 > 1 then x.n 1 else RV.one.n 1) = x.n 1 := by
  split
  ·rfl
  ·show (1 : Int) = _; omega
 have q2 : (if x.n 2 > 0 then x.n 2 else RV.one.n 2) = x.n 2 := by
  split
  ·rfl
  ·show (0 : Int) = _; omega
 have q15 : (if x.n 15 = 1 then RV.one.n 15 else x.n 15) = x.n 15 := by
  split
  ·rename_i e; rw [e]; rfl
  ·rfl
 have qu : (if x.u = true then true else RV.one.u) = x.u := by
  split
  ·rename_i e; rw [e]
  ·rename_i e; rw [Bool.not_eq_true] at e; rw [e]; rfl
 have qt : (if x.u = true then x.t else RV.one.t) = x.t := by
  split
  ·rfl
  ·rename_i e; rw [Bool.not_eq_true] at e; rw [(h.v e).1]; rfl
 have qz : (if x.u = true then x.z else RV.one.z) = x.z := by
  split
  ·rfl
  ·rename_i e; rw [Bool.not_eq_true] at e; rw [(h.v e).2]; rfl
 have ql : ∀ c, (if x.l c = [] then RV.one.l c else x.l c) = x.l c := by
  intro c
  split
  ·rename_i e; rw [e]; rfl
  ·rfl
 have qd : (if x.d = [] then RV.one.d else x.d) = x.d := by
  split
  ·rename_i e; rw [e]; rfl
  ·rfl
 rw [fin_eq]
 simp only [e1, e2]
 constructor
 ·simp only [n_ite, n_num, n_lst, n_til, n_dys, l_ite, l_num, l_lst, l_til, l_dys, d_ite, d_num, d_lst, d_til, d_dys, u_ite, u_num, u_lst, u_til, u_dys, t_ite, t_num, t_lst, t_til, t_dys, z_ite, z_num, z_lst, z_til, z_dys, ite_self, reduceIte, Nat.reduceEqDiff]
 ·simp only [n_ite, n_num, n_lst, n_til, n_dys, l_ite, l_num, l_lst, l_til, l_dys, d_ite, d_num, d_lst, d_til, d_dys, u_ite, u_num, u_lst, u_til, u_dys, t_ite, t_num, t_lst, t_til, t_dys, z_ite, z_num, z_lst, z_til, z_dys, ite_self, reduceIte, Nat.reduceEqDiff]
  exact q1
 ·simp only [n_ite, n_num, n_lst, n_til, n_dys, l_ite, l_num, l_lst, l_til, l_dys, d_ite, d_num, d_lst, d_til, d_dys, u_ite, u_num, u_lst, u_til, u_dys, t_ite, t_num, t_lst, t_til, t_dys, z_ite, z_num, z_lst, z_til, z_dys, ite_self, reduceIte, Nat.reduceEqDiff]
  exact q2
 ·simp only [n_ite, n_num, n_lst, n_til, n_dys, l_ite, l_num, l_lst, l_til, l_dys, d_ite, d_num, d_lst, d_til, d_dys, u_ite, u_num, u_lst, u_til, u_dys, t_ite, t_num, t_lst, t_til, t_dys, z_ite, z_num, z_lst, z_til, z_dys, ite_self, reduceIte, Nat.reduceEqDiff]
  exact q15
 ·simp only [n_ite, n_num, n_lst, n_til, n_dys, l_ite, l_num, l_lst, l_til, l_dys, d_ite, d_num, d_lst, d_til, d_dys, u_ite, u_num, u_lst, u_til, u_dys, t_ite, t_num, t_lst, t_til, t_dys, z_ite, z_num, z_lst, z_til, z_dys, ite_self, reduceIte, Nat.reduceEqDiff]
  exact qu
 ·simp only [n_ite, n_num, n_lst, n_til, n_dys, l_ite, l_num, l_lst, l_til, l_dys, d_ite, d_num, d_lst, d_til, d_dys, u_ite, u_num, u_lst, u_til, u_dys, t_ite, t_num, t_lst, t_til, t_dys, z_ite, z_num, z_lst, z_til, z_dys, ite_self, reduceIte, Nat.reduceEqDiff]
  exact qt
 ·simp only [n_ite, n_num, n_lst, n_til, n_dys, l_ite, l_num, l_lst, l_til, l_dys, d_ite, d_num, d_lst, d_til, d_dys, u_ite, u_num, u_lst, u_til, u_dys, t_ite, t_num, t_lst, t_til, t_dys, z_ite, z_num, z_lst, z_til, z_dys, ite_self, reduceIte, Nat.reduceEqDiff]
  exact qz
 ·simp only [n_ite, n_num, n_lst, n_til, n_dys, l_ite, l_num, l_lst, l_til, l_dys, d_ite, d_num, d_lst, d_til, d_dys, u_ite, u_num, u_lst, u_til, u_dys, t_ite, t_num, t_lst, t_til, t_dys, z_ite, z_num, z_lst, z_til, z_dys, ite_self, reduceIte, Nat.reduceEqDiff]
  exact qd
 ·simp only [n_ite, n_num, n_lst, n_til, n_dys, l_ite, l_num, l_lst, l_til, l_dys, d_ite, d_num, d_lst, d_til, d_dys, u_ite, u_num, u_lst, u_til, u_dys, t_ite, t_num, t_lst, t_til, t_dys, z_ite, z_num, z_lst, z_til, z_dys, ite_self, reduceIte, Nat.reduceEqDiff]
  exact ql 6
 ·simp only [n_ite, n_num, n_lst, n_til, n_dys, l_ite, l_num, l_lst, l_til, l_dys, d_ite, d_num, d_lst, d_til, d_dys, u_ite, u_num, u_lst, u_til, u_dys, t_ite, t_num, t_lst, t_til, t_dys, z_ite, z_num, z_lst, z_til, z_dys, ite_self, reduceIte, Nat.reduceEqDiff]
  exact ql 7
 ·simp only [n_ite, n_num, n_lst, n_til, n_dys, l_ite, l_num, l_lst, l_til, l_dys, d_ite, d_num, d_lst, d_til, d_dys, u_ite, u_num, u_lst, u_til, u_dys, t_ite, t_num, t_lst, t_til, t_dys, z_ite, z_num, z_lst, z_til, z_dys, ite_self, reduceIte, Nat.reduceEqDiff]
  exact ql 8
 ·simp only [n_ite, n_num, n_lst, n_til, n_dys, l_ite, l_num, l_lst, l_til, l_dys, d_ite, d_num, d_lst, d_til, d_dys, u_ite, u_num, u_lst, u_til, u_dys, t_ite, t_num, t_lst, t_til, t_dys, z_ite, z_num, z_lst, z_til, z_dys, ite_self, reduceIte, Nat.reduceEqDiff]
  exact ql 10
 ·simp only [n_ite, n_num, n_lst, n_til, n_dys, l_ite, l_num, l_lst, l_til, l_dys, d_ite, d_num, d_lst, d_til, d_dys, u_ite, u_num, u_lst, u_til, u_dys, t_ite, t_num, t_lst, t_til, t_dys, z_ite, z_num, z_lst, z_til, z_dys, ite_self, reduceIte, Nat.reduceEqDiff]
  exact ql 11
 ·simp only [n_ite, n_num, n_lst, n_til, n_dys, l_ite, l_num, l_lst, l_til, l_dys, d_ite, d_num, d_lst, d_til, d_dys, u_ite, u_num, u_lst, u_til, u_dys, t_ite, t_num, t_lst, t_til, t_dys, z_ite, z_num, z_lst, z_til, z_dys, ite_self, reduceIte, Nat.reduceEqDiff]
  exact ql 12
 ·simp only [n_ite, n_num, n_lst, n_til, n_dys, l_ite, l_num, l_lst, l_til, l_dys, d_ite, d_num, d_lst, d_til, d_dys, u_ite, u_num, u_lst, u_til, u_dys, t_ite, t_num, t_lst, t_til, t_dys, z_ite, z_num, z_lst, z_til, z_dys, ite_self, reduceIte, Nat.reduceEqDiff]
  exact ql 13
 ·simp only [n_ite, n_num, n_lst, n_til, n_dys, l_ite, l_num, l_lst, l_til, l_dys, d_ite, d_num, d_lst, d_til, d_dys, u_ite, u_num, u_lst, u_til, u_dys, t_ite, t_num, t_lst, t_til, t_dys, z_ite, z_num, z_lst, z_til, z_dys, ite_self, reduceIte, Nat.reduceEqDiff]
  exact ql 14
end Go.Proofs.YtjanombhdnoemaaGreatDoor.Base

namespace Go.Proofs.YtjanombhdnoemaaGreatDoor.Base
open Go.RowKit Go.Proofs.YtjanombhdnoemaaGreatDoor.PRec Go.Proofs.YtjanombhdnoemaaGreatDoorW.PrintWords Go.Proofs.YtjanombhdnoemaaGreatDoorW.PrintLast Go.Proofs.YtjanombhdnoemaaGreatDoorW.PrintMore
set_option linter.unusedVariables false
set_option linter.unusedSimpArgs false
def AllN : List ByteArray := [strOfNums nF] ++ ([strOfNums nI] ++ ([strOfNums nC] ++ ([strOfNums nU] ++ ((ptL.take 4).map (fun p => strOfNums (bytesOf p.1)) ++ ([strOfNums nD] ++ ((ptL.drop 4).map (fun p => strOfNums (bytesOf p.1)) ++ [strOfNums nW]))))))
theorem AllN_nodup : AllN.Nodup := by decide +kernel
theorem if_sub {α β : Type} {c : Prop} [Decidable c] (f : α → β) (a : α) : ((if c then [a] else []).map f).Sublist [f a] := by
 split
 ·exact List.Sublist.refl _
 ·exact List.nil_sublist _
theorem if_sub' {α β : Type} {c : Prop} [Decidable c] (f : α → β) (a : α) : ((if c then [] else [a]).map f).Sublist [f a] := by
 split
 ·exact List.nil_sublist _
 ·exact List.Sublist.refl _
theorem ls_sub (f : Nat → List Int) : ∀ ps : List (ByteArray × Nat × Bool), ((ps.flatMap (fun p => lsP p (f p.2.1))).map (fun q : Prt => strOfNums q.1)).Sublist (ps.map (fun p => strOfNums (bytesOf p.1)))
 | [] => List.Sublist.refl _
 | p :: ps => by
  rw [List.flatMap_cons, List.map_append, List.map_cons]
  exact List.Sublist.append (if_sub' (fun q : Prt => strOfNums q.1) _) (ls_sub f ps)
theorem names_sub (x : RV) : ((P3 x).map (fun q : Prt => strOfNums q.1)).Sublist AllN := by
 unfold P3 AllN
 simp only [List.map_append]
 refine List.Sublist.append (List.Sublist.refl _) (List.Sublist.append (if_sub _ _) (List.Sublist.append (if_sub _ _) (List.Sublist.append (if_sub _ _) (List.Sublist.append (ls_sub x.l _) (List.Sublist.append (if_sub' _ _) (List.Sublist.append (ls_sub x.l _) (if_sub' _ _)))))))
theorem names_dup (x : RV) : dup [] ((P3 x).map (fun q : Prt => strOfNums q.1)) = false := by
 rw [dup_nil, decide_eq_true ((names_sub x).nodup AllN_nodup)]
 rfl
theorem P3_ne (x : RV) : (P3 x).map pcT ≠ [] := by
 unfold P3
 simp
theorem P3_len (x : RV) : ((P3 x).map pcT).length ≤ 14 := by
 have h := (names_sub x).length_le
 rw [List.length_map] at h ⊢
 have : AllN.length = 14 := by decide
 omega
noncomputable def txV (x : RV) : List Int := jn [59] ((P3 x).map pcT)
theorem pc_all {x : RV} (h : Rt x) (hz : Sz x) : ∀ q ∈ (P3 x).map pcT, (q.length ≤ 300000 ∧ Bytes q) ∧ ∀ c ∈ q, c ≠ 59 := by
 intro q hq
 obtain ⟨p, hp, rfl⟩ := List.mem_map.1 hq
 have := P3_ok h hz p hp
 exact ⟨⟨this.len, this.b⟩, this.semi⟩
theorem txV_ok {x : RV} (h : Rt x) (hz : Sz x) : Bytes (txV x) ∧ (txV x).length ≤ 10000000 ∧ spl 59 (txV x) = (P3 x).map pcT := by
 have ha := pc_all h hz
 refine ⟨jn_bytes (Bytes.cons (by omega) (by omega) Bytes.nil) _ (fun q hq => (ha q hq).1.2), ?_, spl_jn (P3_ne x) (fun q hq => (ha q hq).2)⟩
 have hj := jn_length [59] 300000 ((P3 x).map pcT) (fun q hq => (ha q hq).1.1)
 have h14 := Nat.mul_le_mul_right (300000 + 1) (P3_len x)
 rw [List.length_singleton] at hj
 unfold txV
 omega
theorem read_txV {x : RV} (hk : okV x = true) (hz : Sz x) : prsS (txV x) = some (fin x) ∧ Sm (fin x) x := by
 have h := Rt.of hk
 have hs := fin_sm h
 refine ⟨?_, hs⟩
 unfold prsS
 rw [(txV_ok h hz).2.2, prs_ok (P3_ok h hz), List.nil_append]
 unfold prsE
 dsimp only
 rw [names_dup, if_neg (by decide), show okV ((P3 x).foldl updP RV.one) = true from hs.ok.trans hk, if_pos rfl]
 rfl
theorem round {x : RV} (hk : okV x = true) (hr : RowV x) (hz : Sz x) : TextV x = some (strOfNums (txV x), 0) ∧ recur_Parse.F (strOfNums (txV x)) = some (x.flat 0) := by
 have h := Rt.of hk
 have ha := pc_all h hz
 obtain ⟨hb, hl, _⟩ := txV_ok h hz
 obtain ⟨e, hs⟩ := read_txV hk hz
 refine ⟨Text_ok hk hr hz (fun q hq => ⟨by have := (ha q hq).1.1; omega, (ha q hq).1.2⟩), ?_⟩
 rw [Parse_eq _ (by rw [size_strOf]; exact hl), bytes_strOf hb, e]
 exact congrArg some (hs.flat 0)
theorem Text_bad {x : RV} (hk : okV x = false) (hr : RowV x) : TextV x = some ((⟨#[]⟩ : ByteArray), 21) := by
 unfold TextV
 rw [recur_Text.F_eq, Check_eq _ _ _ _ _ _ _ _ _ _ _ _ _ _ _ _ hr, show okR (x.n 0) (x.n 1) (x.n 2) x.u x.t x.z (x.l 6) (x.l 7) (x.l 8) x.d (x.l 10) (x.l 11) (x.l 12) (x.l 13) (x.l 14) (x.n 15) = false from hk]
 rfl
end Go.Proofs.YtjanombhdnoemaaGreatDoor.Base

namespace Go.Proofs.YtjanombhdnoemaaGreatDoor.Base
open Go.RowKit Go.Proofs.YtjanombhdnoemaaGreatDoor.PRec Go.Proofs.YtjanombhdnoemaaGreatDoorW.PrintWords Go.Proofs.YtjanombhdnoemaaGreatDoorW.PrintLast Go.Proofs.YtjanombhdnoemaaGreatDoorW.PrintMore
set_option linter.unusedVariables false
set_option linter.unusedSimpArgs false
def rvOf (a0 a1 a2 : Int) (a3 : Bool) (a4 : Int) (a5 : Bool) (l6 l7 l8 : List Int) (l9 : List S38) (l10 l11 l12 l13 l14 : List Int) (a15 : Int) : RV :=
 ⟨fun c => if c = 0 then a0 else if c = 1 then a1 else if c = 2 then a2 else if c = 15 then a15 else 0, a3, a4, a5, l9, fun c => if c = 6 then l6 else if c = 7 then l7 else if c = 8 then l8 else if c = 10 then l10 else if c = 11 then l11 else if c = 12 then l12 else if c = 13 then l13 else if c = 14 then l14 else []⟩
theorem rvOf_flat (a0 a1 a2 : Int) (a3 : Bool) (a4 : Int) (a5 : Bool) (l6 l7 l8 : List Int) (l9 : List S38) (l10 l11 l12 l13 l14 : List Int) (a15 e : Int) : (rvOf a0 a1 a2 a3 a4 a5 l6 l7 l8 l9 l10 l11 l12 l13 l14 a15).flat e = (a0, a1, a2, a3, a4, a5, l6, l7, l8, l9, l10, l11, l12, l13, l14, a15, e) := rfl
theorem rvOf_text (a0 a1 a2 : Int) (a3 : Bool) (a4 : Int) (a5 : Bool) (l6 l7 l8 : List Int) (l9 : List S38) (l10 l11 l12 l13 l14 : List Int) (a15 : Int) : TextV (rvOf a0 a1 a2 a3 a4 a5 l6 l7 l8 l9 l10 l11 l12 l13 l14 a15) = recur_Text.F a0 a1 a2 a3 a4 a5 l6 l7 l8 l9 l10 l11 l12 l13 l14 a15 := rfl
theorem rvOf_sz {a0 a1 a2 : Int} {a3 : Bool} {a4 : Int} {a5 : Bool} {l6 l7 l8 : List Int} {l9 : List S38} {l10 l11 l12 l13 l14 : List Int} {a15 : Int} (h : hvB l6 l7 l8 l9 l10 l11 l12 l13 l14 = false) : Sz (rvOf a0 a1 a2 a3 a4 a5 l6 l7 l8 l9 l10 l11 l12 l13 l14 a15) := by
 unfold hvB at h
 simp only [Bool.or_eq_false_iff, decide_eq_false_iff_not] at h
 obtain ⟨h6, h7, h8, h9, h10, h11, h12, h13, h14⟩ := h
 refine ⟨fun c => ?_, by show l9.length ≤ _; omega⟩
 show (if c = 6 then l6 else if c = 7 then l7 else if c = 8 then l8 else if c = 10 then l10 else if c = 11 then l11 else if c = 12 then l12 else if c = 13 then l13 else if c = 14 then l14 else []).length ≤ 2000
 repeat' split
 all_goals first | omega | simp
theorem wfs {l : List Int} (h : ∀ y ∈ l, (Lit.int .i64 y).wf = true) (hl : l.length ≤ 2000) : RowI l := ⟨fun x hx => wf64 (h x hx), by unfold Len9; omega⟩
theorem rvOf_row {a0 a1 a2 : Int} {a3 : Bool} {a4 : Int} {a5 : Bool} {l6 l7 l8 : List Int} {l9 : List S38} {l10 l11 l12 l13 l14 : List Int} {a15 : Int}
  (hQ : ((Lit.int .i64 a0).wf = true) ∧ ((Lit.int .i64 a1).wf = true) ∧ ((Lit.int .i64 a2).wf = true) ∧ (True) ∧ ((Lit.int .i64 a4).wf = true) ∧ (True) ∧ (∀ y0 ∈ l6, (Lit.int .i64 y0).wf = true) ∧ (∀ y0 ∈ l7, (Lit.int .i64 y0).wf = true) ∧ (∀ y0 ∈ l8, (Lit.int .i64 y0).wf = true) ∧ (∀ y0 ∈ l9, ((Lit.int .i64 y0.f0).wf = true) ∧ ((Lit.int .i64 y0.f1).wf = true)) ∧ (∀ y0 ∈ l10, (Lit.int .i64 y0).wf = true) ∧ (∀ y0 ∈ l11, (Lit.int .i64 y0).wf = true) ∧ (∀ y0 ∈ l12, (Lit.int .i64 y0).wf = true) ∧ (∀ y0 ∈ l13, (Lit.int .i64 y0).wf = true) ∧ (∀ y0 ∈ l14, (Lit.int .i64 y0).wf = true) ∧ ((Lit.int .i64 a15).wf = true))
  (hz : Sz (rvOf a0 a1 a2 a3 a4 a5 l6 l7 l8 l9 l10 l11 l12 l13 l14 a15)) : RowV (rvOf a0 a1 a2 a3 a4 a5 l6 l7 l8 l9 l10 l11 l12 l13 l14 a15) := by
 obtain ⟨q0, q1, q2, _, q4, _, q6, q7, q8, q9, q10, q11, q12, q13, q14, q15⟩ := hQ
 have z := hz.1
 exact ⟨wf64 q4, wfs q6 (z 6), wfs q7 (z 7), wfs q8 (z 8), fun x hx => ⟨wf64 (q9 x hx).1, wf64 (q9 x hx).2⟩, by have := hz.2; unfold Len9; show l9.length < _; exact Nat.lt_of_le_of_lt this (by omega), wfs q10 (z 10), wfs q11 (z 11), wfs q12 (z 12), wfs q13 (z 13), wfs q14 (z 14)⟩
theorem Sz.one : Sz RV.one := ⟨fun c => Nat.zero_le _, Nat.zero_le _⟩
def UpdSz : Upd → Prop
 | .lst _ l => l.length ≤ 2000
 | .dys d => d.length ≤ 2000
 | _ => True
theorem Sz.upd {x : RV} {u : Upd} (h : Sz x) (hu : UpdSz u) : Sz (x.upd u) := by
 cases u with
 | no => exact h
 | lst c l =>
  refine ⟨fun n => ?_, h.2⟩
  show (if n = c then l else x.l n).length ≤ 2000
  split
  ·exact hu
  ·exact h.1 n
 | num c n => exact ⟨h.1, h.2⟩
 | til t b => exact ⟨h.1, h.2⟩
 | dys d => exact ⟨h.1, hu⟩
theorem nsS_sz (sg : Bool) {v : List Int} (hv : v.length ≤ 1000) : (nsS sg v).1.length ≤ 2000 := by
 have hc := spl_count 44 v
 unfold nsS
 cases h : nsR sg (spl 44 v) with
 | none => exact Nat.zero_le _
 | some l =>
  obtain ⟨g1, g2⟩ := nsR_row h
  show ([] ++ l).length ≤ _
  rw [List.nil_append]
  omega
theorem bsS_sz {v : List Int} (hv : v.length ≤ 1000) : (bsS v).1.length ≤ 2000 := by
 have hc := spl_count 44 v
 unfold bsS
 cases h : bsR (spl 44 v) with
 | none => exact Nat.zero_le _
 | some l =>
  obtain ⟨g1, g2⟩ := bsR_row h
  show ([] ++ l).length ≤ _
  rw [List.nil_append]
  omega
theorem paS_sz (nm : List Int) {v : List Int} (hv : v.length ≤ 1000) : UpdSz (paS nm v).2 := by
 unfold paS
 cases ptL.find? fun p => decide ((bytesOf p.1).map smc = nm.map smc) with
 | some p => exact nsS_sz _ hv
 | none =>
  show UpdSz (prS nm v).2
  unfold prS
  repeat' split
  all_goals first | exact trivial | exact bsS_sz hv
theorem prsR_sz : ∀ {ps : List (List Int)} {x x' : RV} {y y' : List ByteArray}, (∀ p ∈ ps, p.length ≤ 1000) → Sz x → prsR ps x y = some (x', y') → Sz x'
 | [], x, x', y, y', hp, hx, h => by
  simp only [prsR, Option.some.injEq, Prod.mk.injEq] at h
  obtain ⟨rfl, rfl⟩ := h
  exact hx
 | p :: ps, x, x', y, y', hp, hx, h => by
  rw [prsR] at h
  have hpl := hp p (List.mem_cons_self ..)
  split at h
  ·cases h
  ·rename_i A B hc
   obtain ⟨e, _⟩ := cutS_some hc
   rw [e, List.length_append, List.length_cons] at hpl
   split at h
   ·exact prsR_sz (fun q hq => hp q (List.mem_cons_of_mem _ hq)) (hx.upd (paS_sz A (v := B) (by omega))) h
   ·cases h
theorem prsS_some {l : List Int} (hl : l.length ≤ 1000) {z : RV} (h : prsS l = some z) : okV z = true ∧ RowV z ∧ Sz z := by
 unfold prsS at h
 have hy : ∀ p ∈ spl 59 l, p.length ≤ 1000 := fun p hp => Nat.le_trans (spl_len _ p hp) hl
 cases hr : prsR (spl 59 l) RV.one [] with
 | none => rw [hr] at h; cases h
 | some q =>
  obtain ⟨x, y⟩ := q
  rw [hr] at h
  unfold prsE at h
  dsimp only at h
  split at h
  ·cases h
  ·split at h
   ·rename_i hk
    obtain rfl := Option.some.inj h
    exact ⟨hk, (prsR_row (fun p hp => by have := hy p hp; omega) RowX.one (fun s hs => by cases hs) hr).1.v, prsR_sz hy Sz.one hr⟩
   ·cases h
theorem text_ex {x : RV} (hr : RowV x) (hz : Sz x) : ∃ t e, TextV x = some (t, e) ∧ (e = 0 ∨ e = 21) ∧ ((e == 0) = true → t = strOfNums (txV x) ∧ okV x = true ∧ recur_Parse.F t = some (x.flat 0)) := by
 cases hk : okV x with
 | true =>
  obtain ⟨h1, h2⟩ := round hk hr hz
  exact ⟨_, _, h1, Or.inl rfl, fun _ => ⟨rfl, rfl, h2⟩⟩
 | false => exact ⟨_, _, Text_bad hk hr, Or.inr rfl, fun h => by simp at h⟩
end Go.Proofs.YtjanombhdnoemaaGreatDoor.Base
