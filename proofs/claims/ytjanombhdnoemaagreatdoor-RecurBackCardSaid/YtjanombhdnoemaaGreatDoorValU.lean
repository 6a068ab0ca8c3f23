-- A text of the kit's tools for this claim, its remarks left out.
import Derived.Test.YtjanombhdnoemaaGreatDoorValT
namespace Go.Proofs.YtjanombhdnoemaaGreatDoor.Base
open Go.RowKit Go.Proofs.YtjanombhdnoemaaGreatDoor.PRec Go.Proofs.YtjanombhdnoemaaGreatDoorW.PrintWords Go.Proofs.YtjanombhdnoemaaGreatDoorW.PrintLast Go.Proofs.YtjanombhdnoemaaGreatDoorW.PrintMore
set_option linter.unusedVariables false
set_option linter.unusedSimpArgs false
theorem cutz_bytes {l : List Int} (h : Bytes l) : Bytes (cutz l).1 := by
 unfold cutz
 split
 ·exact fun x hx => h x (List.dropLast_subset _ hx)
 ·exact h
theorem time_bad (c : ByteArray) (u : Bool) : value_ParseTime.J0 c u true = some (0, false, 19) := by rw [value_ParseTime.J0_eq, if_pos rfl]
theorem ParseTime_eq (s : ByteArray) (hs : s.size ≤ 9223372036854775807) : value_ParseTime.F s = some (encT (ptS (bytesOf s))) := by
 rw [value_ParseTime.F_eq, CutZ_eq s hs, bind_some_]
 unfold ptS ptB
 have hb := cutz_bytes (bytes_of s)
 generalize (cutz (bytesOf s)).1 = c at *
 generalize (cutz (bytesOf s)).2 = u at *
 dsimp only
 rw [size_strOf]
 by_cases h1 : c.length = 15
 ·rw [if_pos (by omega), if_pos (by omega)]
  have e8 : rest (strOfNums c) 8 = bt (strOfNums c) 8 :: rest (strOfNums c) 9 := rest_cons (by omega) (by rw [size_strOf]; omega)
  unfold rest at e8
  rw [bytes_strOf hb] at e8
  have e9 : c[8]? = some (bt (strOfNums c) 8) := by
   have := congrArg List.head? e8
   rw [List.head?_cons, List.head?_drop] at this
   exact this
  by_cases h2 : bt (strOfNums c) 8 = 84
  ·rw [e9, h2, if_pos ⟨h1, rfl⟩]
   exact time_J0 c hb u h1
  ·rw [e9, if_neg (fun h => h2 (by injection h.2))]
   rw [bne_iff_ne.2 h2, time_bad]
   rfl
 ·rw [if_neg (by omega), if_neg (fun h => h1 h.1), time_bad]
  rfl
def ttx (y m d h i s : Int) (u : Bool) : List Int := txt y 4 ++ (txt m 2 ++ (txt d 2 ++ ([84] ++ (txt h 2 ++ (txt i 2 ++ (txt s 2 ++ (if u = true then [90] else [])))))))
theorem ttx_bytes (y m d h i s : Int) (u : Bool) : Bytes (ttx y m d h i s u) := by
 unfold ttx
 refine Bytes.app (txt_bytes _ _) (Bytes.app (txt_bytes _ _) (Bytes.app (txt_bytes _ _) (Bytes.app (Bytes.cons (by omega) (by omega) Bytes.nil) (Bytes.app (txt_bytes _ _) (Bytes.app (txt_bytes _ _) (Bytes.app (txt_bytes _ _) ?_))))))
 split
 ·exact Bytes.cons (by omega) (by omega) Bytes.nil
 ·exact Bytes.nil
theorem txt_str {n k : Int} (h : 0 ≤ n ∧ n ≤ 100000) (hk : 0 ≤ k ∧ k ≤ 20) : num_Text.f n k = some (strOfNums (txt n k)) := num_Text_eq n k (by omega) (by omega)
theorem Time_J0 (u : Bool) (y m d sec : Int) (h : Dt y m d) (hy : y ≤ 9999) (hs : 0 ≤ sec ∧ sec < 86400) : value_Time.J0 u sec false y m d = some (strOfNums (ttx y m d (sec / 3600) (sec % 3600 / 60) (sec % 60) u), 0) := by
 have hd := ml_le y m
 obtain ⟨h0, h1, h2, h3, h4, h5⟩ := h
 have l4 := (four_dig (n := y) (by omega)).2.2
 have lm := (two_dig (n := m) (by omega)).2.2
 have ld := (two_dig (n := d) (by omega)).2.2
 have lh := (two_dig (n := sec / 3600) (by omega)).2.2
 have li := (two_dig (n := sec % 3600 / 60) (by omega)).2.2
 have ls := (two_dig (n := sec % 60) (by omega)).2.2
 have s1 : ((⟨#[84]⟩ : ByteArray)) = strOfNums [84] := rfl
 have s2 : ((⟨#[90]⟩ : ByteArray)) = strOfNums [90] := rfl
 rw [value_Time.J0_eq, if_neg (by simp), Int.tmod_eq_emod_of_nonneg hs.1, Int.tdiv_eq_ediv_of_nonneg hs.1, Int.tdiv_eq_ediv_of_nonneg (by omega), wrap64_id (n := sec / 3600) (by omega) (by omega), wrap64_id (n := sec % 3600 / 60) (by omega) (by omega), Int.tmod_eq_emod_of_nonneg hs.1]
 rw [txt_str (n := y) (by omega) (by omega), bind_some_, txt_str (n := m) (by omega) (by omega), bind_some_, txt_str (n := d) (by omega) (by omega), bind_some_, txt_str (n := sec / 3600) (by omega) (by omega), bind_some_, txt_str (n := sec % 3600 / 60) (by omega) (by omega), bind_some_, txt_str (n := sec % 60) (by omega) (by omega), bind_some_]
 rw [s1, s2]
 simp only [strOf_append, size_strOf, List.length_append, l4, lm, ld, lh, li, ls, List.length_singleton]
 rw [if_pos (by omega), if_pos (by omega), if_pos (by omega), if_pos (by omega), if_pos (by omega), if_pos (by omega)]
 unfold ttx
 cases u with
 | true => rw [if_pos rfl, if_pos (by omega), if_pos rfl]; simp only [List.append_assoc]
 | false => rw [if_neg (by simp), if_neg (by simp), List.append_nil]; simp only [List.append_assoc]
theorem Time_eq (u : Bool) (y m d t : Int) (h : Dt y m d) (hy : 1 ≤ y ∧ y ≤ 9999) (ht : t / 86400 = dn y m d) : value_Time.F t u = some (strOfNums (ttx y m d (t % 86400 / 3600) (t % 86400 % 3600 / 60) (t % 86400 % 60) u), 0) := by
 have hr := dn_range h
 rw [value_Time.F_eq, clock_Split_eq t (by omega), bind_some_]
 dsimp only
 rw [ht, Date_eq h, bind_some_]
 dsimp only
 rw [if_pos rfl, if_neg (by omega), decide_eq_false (by omega), Time_J0 u y m d (t % 86400) h hy.2 (by omega)]
theorem ptS_ttx (y m d h i s : Int) (u : Bool) (hd : Dt y m d) (hy : 1 ≤ y ∧ y ≤ 9999) (hh : 0 ≤ h ∧ h < 24) (hi : 0 ≤ i ∧ i < 60) (hs : 0 ≤ s ∧ s < 60) : ptS (ttx y m d h i s u) = some (dn y m d * 86400 + h * 3600 + i * 60 + s, u) := by
 have hl := ml_le y m
 have hd' := hd
 obtain ⟨h0, h1, h2, h3, h4, h5⟩ := hd'
 have ey := four_dig (n := y) (by omega)
 have em := two_dig (n := m) (by omega)
 have ed := two_dig (n := d) (by omega)
 have eh := two_dig (n := h) (by omega)
 have ei := two_dig (n := i) (by omega)
 have es := two_dig (n := s) (by omega)
 have hc : cutz (ttx y m d h i s u) = (txt y 4 ++ (txt m 2 ++ (txt d 2 ++ ([84] ++ (txt h 2 ++ (txt i 2 ++ txt s 2))))), u) := by
  unfold ttx
  cases u with
  | true =>
   rw [if_pos rfl]
   have := cutz_at (txt y 4 ++ (txt m 2 ++ (txt d 2 ++ ([84] ++ (txt h 2 ++ (txt i 2 ++ txt s 2))))))
   simp only [List.append_assoc] at this
   exact this
  | false =>
   rw [if_neg (by simp), List.append_nil, txt2 (n := s) (by omega)]
   unfold cutz
   rw [if_neg]
   simp only [← List.append_assoc]
   rw [show ∀ (a : List Int) (p q : Int), a ++ [p, q] = (a ++ [p]) ++ [q] from fun a p q => by simp, List.getLast?_concat]
   intro e
   injection e with e
   omega
 unfold ptS
 rw [hc]
 unfold ptB
 dsimp only
 have e8 : (txt y 4 ++ (txt m 2 ++ (txt d 2 ++ ([84] ++ (txt h 2 ++ (txt i 2 ++ txt s 2))))))[8]? = some 84 := by
  rw [List.getElem?_append_right (by omega), List.getElem?_append_right (by omega), List.getElem?_append_right (by omega), ey.2.2, em.2.2, ed.2.2]
  rfl
 have e1 : (txt y 4 ++ (txt m 2 ++ (txt d 2 ++ ([84] ++ (txt h 2 ++ (txt i 2 ++ txt s 2)))))).take 8 = txt y 4 ++ (txt m 2 ++ txt d 2) := by
  rw [← List.append_assoc (txt m 2), ← List.append_assoc (txt y 4)]
  exact List.take_left' (by simp only [List.length_append]; omega)
 have e2 : (txt y 4 ++ (txt m 2 ++ (txt d 2 ++ ([84] ++ (txt h 2 ++ (txt i 2 ++ txt s 2)))))).drop 9 = txt h 2 ++ (txt i 2 ++ txt s 2) := by
  rw [← List.append_assoc (txt d 2), ← List.append_assoc (txt m 2), ← List.append_assoc (txt y 4)]
  exact List.drop_left' (by simp only [List.length_append, List.length_singleton]; omega)
 rw [if_pos ⟨by simp only [List.length_append, List.length_singleton]; omega, e8⟩, e1, e2]
 simp only [List.append_assoc]
 have e0 : txt s 2 = txt s 2 ++ [] := by rw [List.append_nil]
 rw [e0, nums_put (by omega) (by omega) ey.1, nums_put (by omega) (by omega) em.1, nums_put (by omega) (by omega) ed.1, nums_put (by omega) (by omega) eh.1, nums_put (by omega) (by omega) ei.1, nums_put (by omega) (by omega) es.1]
 rw [ey.2.1, em.2.1, ed.2.1, eh.2.1, ei.2.1, es.2.1]
 show ptV u (some [y, m, d, h, i, s]) = _
 unfold ptV
 dsimp only
 rw [if_pos (show okT y m d h i s from ⟨hy.1, hd, by omega, by omega, by omega⟩)]
end Go.Proofs.YtjanombhdnoemaaGreatDoor.Base
