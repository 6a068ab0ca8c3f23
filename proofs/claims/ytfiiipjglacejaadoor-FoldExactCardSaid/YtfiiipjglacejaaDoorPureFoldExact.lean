/- The law FoldExact over numbers and lists: for every two texts the law's printed function answers true. -/
import Derived.Test.YtfiiipjglacejaaDoorFolR
import Derived.Test.YtfiiipjglacejaaDoorEFolx5
namespace Go.Proofs.YtfiiipjglacejaaDoor.Pure
open Go.RowKit Go.Proofs.YtfiiipjglacejaaDoor.PFol Go.Proofs.YtfiiipjglacejaaDoorW.PrintWords Go.Proofs.YtfiiipjglacejaaDoorW.PrintLast Go.Proofs.YtfiiipjglacejaaDoorW.PrintMore Go.Proofs.YtfiiipjglacejaaDoor.Base
set_option linter.unusedVariables false
set_option linter.unusedSimpArgs false

/-- The cut at c. -/
noncomputable def cutAt (x3 x0 : ByteArray) (c : Int) : Option ByteArray := solsticeref16_Fold.L0 (x0.extract c.toNat x0.size) ((x3 ++ (x0.extract 0 c.toNat)) ++ (⟨#[13, 10, 32]⟩ : ByteArray)) 74
theorem fold_L1 (s x3 : ByteArray) (room b : Int) (hs : s.size ≤ 100000) (h3 : x3.size ≤ 1000000) (hr : 5 ≤ room ∧ room ≤ 100) (hl : room < (s.size : Int)) (hb : 0 ≤ b ∧ b ≤ 3) :
    solsticeref16_Fold.L1 s x3 room b = if b < 3 ∧ onB (bt s (room - b)) = true then solsticeref16_Fold.L1 s x3 room (b + 1) else if b > 0 ∧ onB (bt s (room - b)) = false then cutAt x3 s (room - b) else cutAt x3 s room := by
  have w1 : wrap64 (room - b) = room - b := wrap64_id (by omega) (by omega)
  have w2 : wrap64 (b + 1) = b + 1 := wrap64_id (by omega) (by omega)
  have z1 : (s.extract 0 room.toNat).size ≤ 100000 := by rw [ByteArray.size_extract]; omega
  have z2 : (s.extract 0 (room - b).toNat).size ≤ 100000 := by rw [ByteArray.size_extract]; omega
  have z3 : (x3 ++ s.extract 0 room.toNat).size = x3.size + (s.extract 0 room.toNat).size := ByteArray.size_append
  have z4 : (x3 ++ s.extract 0 (room - b).toNat).size = x3.size + (s.extract 0 (room - b).toNat).size := ByteArray.size_append
  have i1 : 0 ≤ room := by omega
  have i2 : room ≤ (s.size : Int) := by omega
  have i3 : room - b ≤ (s.size : Int) := by omega
  have i4 : room - b > 0 := by omega
  have i5 : 0 ≤ room - b := by omega
  have i6 : room - b < (s.size : Int) := by omega
  have i7 : x3.size + (s.extract 0 room.toNat).size ≤ 9223372036854775807 := by omega
  have i8 : (x3 ++ s.extract 0 room.toNat).size + 3 ≤ 9223372036854775807 := by omega
  have i9 : x3.size + (s.extract 0 (room - b).toNat).size ≤ 9223372036854775807 := by omega
  have i10 : (x3 ++ s.extract 0 (room - b).toNat).size + 3 ≤ 9223372036854775807 := by omega
  rw [solsticeref16_Fold.L1_eq, w1, w2]
  simp only [goes_eq, bind_some_, if_pos i1, if_pos i2, if_pos i3, if_pos i4, if_pos i5, if_pos i6, if_pos i7, if_pos i8, if_pos i9, if_pos i10]
  unfold cutAt
  cases onB (bt s (room - b)) with
  | true =>
    by_cases h : b < 3
    · simp [h]
    · by_cases h0 : b > 0
      · simp [h, h0]
      · simp [h, h0]
  | false =>
    by_cases h : b < 3
    · by_cases h0 : b > 0
      · simp [h, h0]
      · simp [h, h0]
    · by_cases h0 : b > 0
      · simp [h, h0]
      · simp [h, h0]
theorem fold_cutL (s x3 : ByteArray) (room : Nat) (hs : s.size ≤ 100000) (h3 : x3.size ≤ 1000000) (hr : 5 ≤ room ∧ room ≤ 100) (hl : room < s.size) :
    solsticeref16_Fold.L1 s x3 (room : Int) 0 = cutAt x3 s ((cutL (bytesOf s) room : Nat) : Int) := by
  have hz := bytesOf_length s
  have hg := fun k => rest_getD s (i := 0) (by omega) k
  have step := fun b (hb : 0 ≤ b ∧ b ≤ 3) => fold_L1 s x3 (room : Int) b hs h3 (by omega) (by omega) hb
  have e0 : (0 : Int) + ((room : Nat) : Int) = (room : Int) - 0 := by omega
  have e1 : (0 : Int) + ((room - 1 : Nat) : Int) = (room : Int) - 1 := by omega
  have e2 : (0 : Int) + ((room - 2 : Nat) : Int) = (room : Int) - 2 := by omega
  have e3 : (0 : Int) + ((room - 3 : Nat) : Int) = (room : Int) - 3 := by omega
  rw [rest_zero] at hg
  unfold cutL
  rw [if_neg (by omega), hg, hg, hg, hg, e0, e1, e2, e3, step 0 (by omega)]
  have s1 := step 1 (by omega)
  have s2 := step 2 (by omega)
  have s3 := step 3 (by omega)
  rw [show (0 : Int) + 1 = 1 from rfl, s1, show (1 : Int) + 1 = 2 from rfl, s2, show (2 : Int) + 1 = 3 from rfl, s3]
  cases onB (bt s ((room : Int) - 0)) with
  | false => simp
  | true =>
    cases onB (bt s ((room : Int) - 1)) with
    | false =>
      simp
      congr 1
      omega
    | true =>
      cases onB (bt s ((room : Int) - 2)) with
      | false =>
        simp
        congr 1
        omega
      | true =>
        cases onB (bt s ((room : Int) - 3)) with
        | false =>
          simp
          congr 1
          omega
        | true => simp
theorem fold_L0 : ∀ (n : Nat) (s : ByteArray) (A : List Int) (room : Nat), s.size < n → s.size ≤ 3000 → A.length + 4 * s.size ≤ 100000 → (5 ≤ room ∧ room ≤ 100) → solsticeref16_Fold.L0 s (strOfNums A) (room : Int) = some (strOfNums (A ++ foldL n (bytesOf s) room)) := by
  intro n
  induction n with
  | zero => intro s A room h; omega
  | succ n ih =>
    intro s A room hn hs hA hr
    have hz := bytesOf_length s
    rw [solsticeref16_Fold.L0_eq]
    unfold foldL
    by_cases h : (bytesOf s).length ≤ room
    · have e : strOfNums A ++ s = strOfNums (A ++ bytesOf s) := by
        conv => lhs; rw [← strOf_bytes s]
        rw [strOf_append]
      rw [if_neg (by omega), if_pos h, if_pos (by rw [size_strOf]; omega), if_pos (by rw [ByteArray.size_append, size_strOf]; omega), e, show (⟨#[13, 10]⟩ : ByteArray) = strOfNums [13, 10] from rfl, strOf_append, List.append_assoc]
    · obtain ⟨k1, k2, k3⟩ := cutL_big h (by omega)
      rw [if_pos (by omega), if_neg h, fold_cutL s _ room (by omega) (by rw [size_strOf]; omega) hr (by omega)]
      unfold cutAt
      have ht := extract_take s (i := 0) (c := cutL (bytesOf s) room) (by omega)
      have hd : s.extract (((cutL (bytesOf s) room : Nat) : Int)).toNat s.size = strOfNums ((bytesOf s).drop (cutL (bytesOf s) room)) := by
        apply bytes_inj
        rw [extract_all, bytes_strOf (fun x hx => bytes_of s x (List.mem_of_mem_drop hx)), Int.toNat_natCast]
      rw [rest_zero, show (0 : Int) + ((cutL (bytesOf s) room : Nat) : Int) = ((cutL (bytesOf s) room : Nat) : Int) by omega] at ht
      have ht' : s.extract 0 (((cutL (bytesOf s) room : Nat) : Int)).toNat = strOfNums ((bytesOf s).take (cutL (bytesOf s) room)) := ht
      have hld := List.length_drop (i := cutL (bytesOf s) room) (l := bytesOf s)
      have hlt := List.length_take (i := cutL (bytesOf s) room) (l := bytesOf s)
      have hi := ih (strOfNums ((bytesOf s).drop (cutL (bytesOf s) room))) (A ++ ((bytesOf s).take (cutL (bytesOf s) room) ++ [13, 10, 32])) 74 (by rw [size_strOf]; omega) (by rw [size_strOf]; omega) (by rw [size_strOf]; simp only [List.length_append, List.length_cons, List.length_nil]; omega) (by omega)
      rw [bytes_strOf (fun x hx => bytes_of s x (List.mem_of_mem_drop hx))] at hi
      rw [hd, ht', show (⟨#[13, 10, 32]⟩ : ByteArray) = strOfNums [13, 10, 32] from rfl, strOf_append, strOf_append, List.append_assoc]
      have e74 : ((74 : Nat) : Int) = 74 := rfl
      rw [e74] at hi
      rw [hi]
      simp
theorem fold_eq (s : ByteArray) (hs : s.size ≤ 3000) : solsticeref16_Fold.F s = some (strOfNums (foldL ((bytesOf s).length + 1) (bytesOf s) 75)) := by
  have hz := bytesOf_length s
  have := fold_L0 ((bytesOf s).length + 1) s [] 75 (by omega) hs (by simp; omega) (by omega)
  rw [List.nil_append] at this
  rw [solsticeref16_Fold.F_eq]
  exact this
theorem exact_L0 (s x : ByteArray) (e : Int) (hs : s.size ≤ 3000) (h1 : Cln (bytesOf s) → e = 0 ∧ x = strOfNums (foldL ((bytesOf s).length + 1) (bytesOf s) 75)) (h2 : ¬ Cln (bytesOf s) → e = 18 ∧ x = (⟨#[]⟩ : ByteArray)) : ∀ (d : Nat) (i : Int), d = s.size - i.toNat → 0 ≤ i → i ≤ (s.size : Int) → Cln ((bytesOf s).take i.toNat) →
    solsticelaw16_FoldExact.L0 s x e i = some true := by
  have hnil : (⟨#[]⟩ : ByteArray).toList = ([] : List UInt8) := by rw [ByteArray.toList_eq]
  intro d
  induction d with
  | zero =>
    intro i hd h0 hi hc
    rw [List.take_of_length_le (by rw [bytesOf_length]; omega)] at hc
    obtain ⟨rfl, rfl⟩ := h1 hc
    rw [solsticelaw16_FoldExact.L0_eq, if_neg (by omega), if_pos rfl, fold_eq s hs, bind_some_, if_pos rfl, wakes16, bind_some_]
  | succ d ih =>
    intro i hd h0 hi hc
    have hlt : i < (s.size : Int) := by omega
    have hr := rest_cons h0 hlt
    have hl : i.toNat < (bytesOf s).length := by rw [bytesOf_length]; omega
    have hm : bt s i ∈ bytesOf s := by
      unfold rest at hr
      exact List.mem_of_mem_drop (hr ▸ List.mem_cons_self ..)
    have ht : (bytesOf s).take (i + 1).toNat = (bytesOf s).take i.toNat ++ [bt s i] := by
      unfold rest at hr
      rw [List.drop_eq_getElem_cons hl] at hr
      simp only [List.cons.injEq] at hr
      rw [show (i + 1).toNat = i.toNat + 1 by omega, List.take_add_one, List.getElem?_eq_getElem hl, hr.1]
      rfl
    rw [solsticelaw16_FoldExact.L0_eq, if_pos hlt, if_pos h0, wrap64_id (n := i + 1) (by omega) (by omega)]
    by_cases c1 : bt s i = 10
    · obtain ⟨rfl, rfl⟩ := h2 (fun h => h.1 (c1 ▸ hm))
      rw [if_pos c1, if_pos rfl, if_pos hnil, wakes16, bind_some_]
    · rw [if_neg c1]
      by_cases c2 : bt s i = 13
      · obtain ⟨rfl, rfl⟩ := h2 (fun h => h.2 (c2 ▸ hm))
        rw [if_pos c2, if_pos rfl, if_pos hnil, wakes16, bind_some_]
      · rw [if_neg c2]
        refine ih (i + 1) (by omega) (by omega) (by omega) ?_
        rw [ht]
        refine ⟨fun h => ?_, fun h => ?_⟩
        · rcases List.mem_append.1 h with h | h
          · exact hc.1 h
          · exact c1 (List.mem_singleton.1 h).symm
        · rcases List.mem_append.1 h with h | h
          · exact hc.2 h
          · exact c2 (List.mem_singleton.1 h).symm
theorem FoldExact_F (s t : ByteArray) : solsticelaw16_FoldExact.F s t = some true := by
  have stop : solsticelaw16_FoldExact.J0 s t true = some true := by rw [solsticelaw16_FoldExact.J0_eq, if_pos rfl]
  have hz := bytesOf_length t
  rw [solsticelaw16_FoldExact.F_eq, stop]
  by_cases a1 : (s.size : Int) > 3000
  · rw [if_pos a1]
  · rw [if_neg a1]
    by_cases a2 : (t.size : Int) > 3000
    · rw [decide_eq_true a2, stop]
    · have hlen : ((encU (unfS (bytesOf t))).1).length ≤ 9223372036854775806 := by
        unfold unfS
        split
        · show ((dropE (spl 10 (ub (rp (bytesOf t))))).map strOfNums).length ≤ _
          rw [List.length_map]
          have h1 : (dropE (spl 10 (ub (rp (bytesOf t))))).length ≤ (spl 10 (ub (rp (bytesOf t)))).length := by
            unfold dropE
            split
            · rw [List.length_dropLast]; omega
            · exact Nat.le_refl _
          have h2 : ∀ m : List Int, (spl 10 m).length ≤ m.length + 1 := by
            intro m
            induction m with
            | nil => simp [spl]
            | cons x m ih =>
              rw [spl]
              split
              · rw [List.length_cons, List.length_cons]; omega
              · split
                · simp
                · rename_i y ys hy
                  rw [hy, List.length_cons] at ih
                  rw [List.length_cons, List.length_cons]; omega
          have h3 : ∀ (n : Nat) (m : List Int), m.length ≤ n → (ub m).length ≤ m.length := by
            intro n
            induction n with
            | zero =>
              intro m hm
              have : m = [] := List.eq_nil_of_length_eq_zero (by omega)
              subst this
              exact Nat.le_refl _
            | succ n ih =>
              intro m hm
              match m, hm with
              | [], _ => exact Nat.le_refl _
              | [c], _ => exact Nat.le_refl _
              | c :: d :: m, hm =>
                rw [List.length_cons, List.length_cons] at hm
                have i1 := ih m (by omega)
                have i2 := ih (d :: m) (by rw [List.length_cons]; omega)
                rw [ub]
                split
                · rw [List.length_cons, List.length_cons]; omega
                · simp only [List.length_cons] at i2 ⊢; omega
          have h4 := h2 (ub (rp (bytesOf t)))
          have h5 := h3 _ (rp (bytesOf t)) (Nat.le_refl _)
          have h6 := rp_le (bytesOf t)
          omega
        · show ([] : List ByteArray).length ≤ _
          simp
      rw [decide_eq_false a2, solsticelaw16_FoldExact.J0_eq, if_neg (by simp), Line_eq s (by omega), bind_some_, Unfold_eq t (by omega), bind_some_, refunf_eq t (by omega), bind_some_, if_pos rfl, keep_texts _ _ hlen, bind_some_, decide_eq_true rfl, Bool.not_true, solsticelaw16_FoldExact.J1_eq, if_neg (by simp)]
      refine exact_L0 s _ _ (by omega) (fun hc => ?_) (fun hc => ?_) _ 0 rfl (by omega) (by omega) ⟨by simp, by simp⟩
      · rw [if_pos hc]
        exact ⟨rfl, rfl⟩
      · rw [if_neg hc]
        exact ⟨rfl, rfl⟩
theorem FoldExact (s t : ByteArray) (w0 : s.size ≤ 140737488351232) (w1 : t.size ≤ 140737488351232) : ∃ k, solsticelaw16_FoldExact.f k s t = some true := lim_some (FoldExact_F s t)
end Go.Proofs.YtfiiipjglacejaaDoor.Pure
