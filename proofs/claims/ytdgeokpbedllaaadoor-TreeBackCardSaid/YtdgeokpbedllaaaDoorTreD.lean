-- A text of the kit's tools for this claim, its remarks left out.
import Derived.Test.YtdgeokpbedllaaaDoorTreB
import Derived.Test.YtdgeokpbedllaaaDoorETrex11
import Derived.Test.YtdgeokpbedllaaaDoorETrex13
namespace Go.Proofs.YtdgeokpbedllaaaDoor.Base
open Go.RowKit Go.Proofs.YtdgeokpbedllaaaDoor.PTre Go.Proofs.YtdgeokpbedllaaaDoorW.PrintWords Go.Proofs.YtdgeokpbedllaaaDoorW.PrintLast Go.Proofs.YtdgeokpbedllaaaDoorW.PrintMore
set_option linter.unusedVariables false
set_option linter.unusedSimpArgs false
theorem on_eq (c : Int) : fold_on.f c = some (onB c) := by
 unfold fold_on.f onB
 by_cases h : c ≥ 128
 ·rw [if_pos h, decide_eq_true (show 128 ≤ c from h), Bool.true_and]
 ·rw [if_neg h, decide_eq_false (show ¬ 128 ≤ c from h), Bool.false_and]
theorem rest_getD (s : ByteArray) {i : Int} (h : 0 ≤ i) (k : Nat) : (rest s i).getD k 0 = bt s (i + k) := by
 unfold rest
 rw [← rd_bytesOf]
 unfold rd
 rw [List.getD_eq_getElem?_getD, List.getD_eq_getElem?_getD, List.getElem?_drop, show (i + (k : Int)).toNat = i.toNat + k by omega]
theorem cut_step (s : ByteArray) (i room at_ x : Int) (hs : s.size ≤ 1000000) (h0 : 0 ≤ i) (h1 : i < x) (h2 : x < (s.size : Int)) (h3 : x ≤ at_) (h4 : at_ ≤ 2000000) :
  fold_cut.L0 s i room at_ x = if onB (bt s x) = true then (if at_ - x ≤ 3 then fold_cut.L0 s i room at_ (x - 1) else some room) else (if at_ - x > 3 then some room else some (x - i)) := by
 rw [fold_cut.L0_eq, if_pos (by omega), if_pos (by omega), if_pos h2, on_eq, bind_some_, bind_some_, wrap64_id (n := at_ - x) (by omega) (by omega), wrap64_id (n := x - 1) (by omega) (by omega), wrap64_id (n := x - i) (by omega) (by omega)]
 cases onB (bt s x) with
 | true =>
  rw [if_pos rfl, if_pos rfl, if_pos rfl]
 | false =>
  rw [if_neg (show ¬ (false = true) by simp), if_neg (show ¬ (false = true) by simp), if_neg (show ¬ (false = true) by simp)]
theorem cut_eq (s : ByteArray) (i : Int) (room : Nat) (hs : s.size ≤ 100000) (h0 : 0 ≤ i) (h1 : i ≤ (s.size : Int)) (hr : 5 ≤ room ∧ room ≤ 100) : fold_cut.F s i (room : Int) = some ((cutL (rest s i) room : Nat) : Int) := by
 have hl := rest_length s i
 have hg := fun k => rest_getD s h0 k
 rw [fold_cut.F_eq, wrap64_id (n := (s.size : Int) - i) (by omega) (by omega), wrap64_id (n := i + (room : Int)) (by omega) (by omega)]
 unfold cutL
 by_cases h : (rest s i).length ≤ room
 ·rw [if_pos (by omega), if_pos h]
  congr 1
  omega
 ·rw [if_neg (by omega), if_neg h, if_pos (by omega), if_pos (by omega), on_eq, bind_some_, hg, hg, hg, hg]
  have e1 : i + ((room - 1 : Nat) : Int) = i + (room : Int) - 1 := by omega
  have e2 : i + ((room - 2 : Nat) : Int) = i + (room : Int) - 1 - 1 := by omega
  have e3 : i + ((room - 3 : Nat) : Int) = i + (room : Int) - 1 - 1 - 1 := by omega
  rw [e1, e2, e3]
  cases o0 : onB (bt s (i + (room : Int))) with
  | false => rw [if_neg (by simp), if_pos rfl]
  | true =>
   rw [if_pos rfl, if_neg (by simp), cut_step s i room _ (i + (room : Int)) (by omega) h0 (by omega) (by omega) (by omega) (by omega), o0, if_pos rfl, if_pos (by omega), cut_step s i room _ (i + (room : Int) - 1) (by omega) h0 (by omega) (by omega) (by omega) (by omega)]
   cases o1 : onB (bt s (i + (room : Int) - 1)) with
   | false =>
    rw [if_neg (by simp), if_neg (by omega), if_pos rfl]
    congr 1
    omega
   | true =>
    rw [if_pos rfl, if_pos (by omega), if_neg (by simp), cut_step s i room _ (i + (room : Int) - 1 - 1) (by omega) h0 (by omega) (by omega) (by omega) (by omega)]
    cases o2 : onB (bt s (i + (room : Int) - 1 - 1)) with
    | false =>
     rw [if_neg (by simp), if_neg (by omega), if_pos rfl]
     congr 1
     omega
    | true =>
     rw [if_pos rfl, if_pos (by omega), if_neg (by simp), cut_step s i room _ (i + (room : Int) - 1 - 1 - 1) (by omega) h0 (by omega) (by omega) (by omega) (by omega)]
     cases o3 : onB (bt s (i + (room : Int) - 1 - 1 - 1)) with
     | false =>
      rw [if_neg (by simp), if_neg (by omega), if_pos rfl]
      congr 1
      omega
     | true =>
      rw [if_pos rfl, if_pos (by omega), if_neg (by simp), cut_step s i room _ (i + (room : Int) - 1 - 1 - 1 - 1) (by omega) h0 (by omega) (by omega) (by omega) (by omega)]
      cases onB (bt s (i + (room : Int) - 1 - 1 - 1 - 1)) with
      | false => rw [if_neg (by simp), if_pos (by omega)]
      | true => rw [if_pos rfl, if_neg (by omega)]
def sep3 : List Int := [13, 10, 32]
def pcs : Nat → List Int → Nat → List (List Int)
 | 0, l, _ => [l]
 | n + 1, l, room => if l.length ≤ room then [l] else l.take (cutL l room) :: pcs n (l.drop (cutL l room)) 74
theorem pcs_ne (n : Nat) (l : List Int) (room : Nat) : pcs n l room ≠ [] := by
 cases n with
 | zero => simp [pcs]
 | succ n =>
  unfold pcs
  split <;> simp
theorem jn_cons_ (sep x : List Int) {r : List (List Int)} (h : r ≠ []) : jn sep (x :: r) = x ++ (sep ++ jn sep r) := by
 cases r with
 | nil => exact absurd rfl h
 | cons y t => rfl
theorem jn_pcs : ∀ (n : Nat) (l : List Int) (room : Nat), jn sep3 (pcs n l room) ++ [13, 10] = foldL n l room := by
 intro n
 induction n with
 | zero => intro l room; rfl
 | succ n ih =>
  intro l room
  unfold pcs foldL
  split
  ·rfl
  ·rw [jn_cons_ _ _ (pcs_ne n _ _), ← ih, List.append_assoc, List.append_assoc]
   rfl
theorem join3_eq (xs : List ByteArray) (hl : xs.length ≤ 100001) (h : ∀ x ∈ xs, x.size ≤ 100000) : strings_Join.f xs (⟨#[13, 10, 32]⟩ : ByteArray) = some (strOfNums (jn sep3 (xs.map bytesOf))) := by
 have e : bytesOf (⟨(Lib.join (xs.map (·.data.toList)) (⟨#[13, 10, 32]⟩ : ByteArray).data.toList).toArray⟩ : ByteArray) = jn sep3 (xs.map bytesOf) := bytes_join (⟨#[13, 10, 32]⟩ : ByteArray) xs
 have hlen := bytes_length_mk (Lib.join (xs.map (·.data.toList)) (⟨#[13, 10, 32]⟩ : ByteArray).data.toList)
 have hj := jn_length sep3 100000 (xs.map bytesOf) (by
  intro x hx
  obtain ⟨y, hy, rfl⟩ := List.mem_map.1 hx
  rw [bytesOf_length]
  exact h y hy)
 rw [List.length_map] at hj
 have hm : xs.length * (100000 + sep3.length) ≤ 100001 * 100003 := Nat.mul_le_mul hl (Nat.le_refl _)
 unfold strings_Join.f
 rw [if_pos ⟨by omega, by rw [← hlen, e]; omega⟩, ← e, strOf_bytes]
theorem extract_take (s : ByteArray) {i : Int} {c : Nat} (h : 0 ≤ i) : s.extract i.toNat (i + c).toNat = strOfNums ((rest s i).take c) := by
 apply bytes_inj
 rw [bytes_extract, bytes_strOf (fun x hx => rest_bytes s i x (List.mem_of_mem_take hx))]
 unfold rest
 rw [show (i + (c : Int)).toNat = i.toNat + c by omega, List.drop_take, show i.toNat + c - i.toNat = c by omega]
theorem Line_L0 (s : ByteArray) (hs : s.size ≤ 60000) : ∀ (n : Nat) (i : Int) (acc : List ByteArray) (room : Nat), 0 ≤ i → i ≤ (s.size : Int) → (rest s i).length < n → acc.length + (rest s i).length ≤ 100000 → (∀ x ∈ acc, x.size ≤ 100000) → (5 ≤ room ∧ room ≤ 100) →
  fold_Line.L0 s acc i (room : Int) = some (strOfNums (jn sep3 (acc.map bytesOf ++ pcs n (rest s i) room) ++ [13, 10]), 0) := by
 intro n
 induction n with
 | zero => intro i acc room h0 h1 h; omega
 | succ n ih =>
  intro i acc room h0 h1 hn ha hx hr
  have hl := rest_length s i
  have hcl : cutL (rest s i) room ≤ (rest s i).length := by
   by_cases h : (rest s i).length ≤ room
   ·rw [cutL_small h]; omega
   ·have := cutL_big h (by omega); omega
  have hx' : ∀ x ∈ acc ++ [strOfNums ((rest s i).take (cutL (rest s i) room))], x.size ≤ 100000 := by
   intro x hxm
   rcases List.mem_append.1 hxm with h | h
   ·exact hx x h
   ·rw [List.mem_singleton.1 h, size_strOf, List.length_take]
    omega
  have hm : (acc ++ [strOfNums ((rest s i).take (cutL (rest s i) room))]).map bytesOf = acc.map bytesOf ++ [(rest s i).take (cutL (rest s i) room)] := by
   rw [List.map_append, List.map_cons, List.map_nil, bytes_strOf (fun x hx => rest_bytes s i x (List.mem_of_mem_take hx))]
  rw [fold_Line.L0_eq, cut_eq s i room (by omega) h0 h1 hr, bind_some_, if_pos h0, wrap64_id (n := i + ((cutL (rest s i) room : Nat) : Int)) (by omega) (by omega), if_pos (by omega), if_pos (by omega), if_pos (by omega), bind_some_, extract_take s h0]
  unfold pcs
  by_cases h : (rest s i).length ≤ room
  ·have hc := cutL_small h
   rw [if_pos h, if_pos (by omega), join3_eq _ (by rw [List.length_append, List.length_singleton]; omega) hx', bind_some_, hm, hc, List.take_of_length_le (Nat.le_refl _)]
   have hj := jn_length sep3 100000 (acc.map bytesOf ++ [rest s i]) (by
    intro x hxm
    rcases List.mem_append.1 hxm with h | h
    ·obtain ⟨y, hy, rfl⟩ := List.mem_map.1 h
     rw [bytesOf_length]
     exact hx y hy
    ·rw [List.mem_singleton.1 h]
     omega)
   have hmm : (acc.map bytesOf ++ [rest s i]).length * (100000 + sep3.length) ≤ 100001 * 100003 := Nat.mul_le_mul (by rw [List.length_append, List.length_map, List.length_singleton]; omega) (Nat.le_refl _)
   rw [if_pos (by rw [size_strOf]; omega), show (⟨#[13, 10]⟩ : ByteArray) = strOfNums [13, 10] from rfl, strOf_append]
  ·obtain ⟨k1, k2, k3⟩ := cutL_big h (by omega)
   have hrest : rest s (i + ((cutL (rest s i) room : Nat) : Int)) = (rest s i).drop (cutL (rest s i) room) := by
    unfold rest
    rw [List.drop_drop, show (i + ((cutL ((bytesOf s).drop i.toNat) room : Nat) : Int)).toNat = i.toNat + cutL ((bytesOf s).drop i.toNat) room by omega]
   have hd := List.length_drop (i := cutL (rest s i) room) (l := rest s i)
   rw [if_neg h, if_neg (by omega)]
   have := ih (i + ((cutL (rest s i) room : Nat) : Int)) (acc ++ [strOfNums ((rest s i).take (cutL (rest s i) room))]) 74 (by omega) (by omega) (by rw [hrest]; omega) (by rw [hrest, List.length_append, List.length_singleton]; omega) hx' (by omega)
   rw [hrest, hm, List.append_assoc] at this
   exact this
theorem has_byte (s : ByteArray) (c : UInt8) : ∃ v, strings_IndexByte.f s (c.toNat : Int) = some v ∧ (v ≥ 0 ↔ (c.toNat : Int) ∈ bytesOf s) := by
 have hc := c.toNat_lt
 exact ⟨_, rfl, index_mem s.data.toList (c.toNat : Int) (by omega) (by omega)⟩
instance (l : List Int) : Decidable (Cln l) := inferInstanceAs (Decidable (_ ∧ _))
theorem Line_eq (s : ByteArray) (hs : s.size ≤ 60000) : fold_Line.F s = some (if Cln (bytesOf s) then (strOfNums (foldL ((bytesOf s).length + 1) (bytesOf s) 75), 0) else ((⟨#[]⟩ : ByteArray), 18)) := by
 have hz := bytesOf_length s
 obtain ⟨v, e1, e2⟩ := has_byte s 10
 obtain ⟨u, e3, e4⟩ := has_byte s 13
 have t10 : ((10 : UInt8).toNat : Int) = 10 := rfl
 have t13 : ((13 : UInt8).toNat : Int) = 13 := rfl
 rw [t10] at e1 e2
 rw [t13] at e3 e4
 rw [fold_Line.F_eq, if_neg (by omega), e1, bind_some_, e3, bind_some_]
 by_cases h1 : (10 : Int) ∈ bytesOf s
 ·rw [if_pos (e2.2 h1), if_neg (fun h => h.1 h1)]
 ·rw [if_neg (fun h => h1 (e2.1 h))]
  by_cases h2 : (13 : Int) ∈ bytesOf s
  ·rw [if_pos (e4.2 h2), if_neg (fun h => h.2 h2)]
  ·have hl := Line_L0 s hs ((bytesOf s).length + 1) 0 [] 75 (by omega) (by omega) (by rw [rest_zero]; omega) (by rw [rest_zero]; simp; omega) (by simp) (by omega)
   rw [rest_zero, List.map_nil, List.nil_append, jn_pcs] at hl
   rw [if_neg (fun h => h2 (e4.1 h)), if_pos ⟨h1, h2⟩]
   exact hl
theorem foldL_len : ∀ (n : Nat) (l : List Int) (room : Nat), 4 ≤ room → (foldL n l room).length ≤ 4 * l.length + 2 := by
 intro n
 induction n with
 | zero => intro l room _; unfold foldL; simp; omega
 | succ n ih =>
  intro l room hr
  unfold foldL
  split
  ·simp; omega
  ·rename_i h
   obtain ⟨k1, k2, k3⟩ := cutL_big h hr
   have := ih (l.drop (cutL l room)) 74 (by omega)
   rw [List.length_drop] at this
   rw [List.length_append, List.length_take, List.length_cons, List.length_cons, List.length_cons]
   omega
theorem foldL_bytes : ∀ (n : Nat) {l : List Int} (room : Nat), Bytes l → Bytes (foldL n l room) := by
 have e : Bytes [13, 10] := Bytes.cons (by omega) (by omega) (Bytes.cons (by omega) (by omega) Bytes.nil)
 intro n
 induction n with
 | zero => intro l room h; exact Bytes.app h e
 | succ n ih =>
  intro l room h
  unfold foldL
  split
  ·exact Bytes.app h e
  ·exact Bytes.app (fun x hx => h x (List.mem_of_mem_take hx)) (Bytes.cons (by omega) (by omega) (Bytes.cons (by omega) (by omega) (Bytes.cons (by omega) (by omega) (ih 74 (fun x hx => h x (List.mem_of_mem_drop hx))))))
theorem lone_eq (s : ByteArray) (hs : s.size ≤ 1000000) : fold_lone.f s = some (!decide ((bytesOf s).count 13 = cl (bytesOf s))) := by
 unfold fold_lone.f
 have t13 : ((13 : UInt8).toNat : Int) = 13 := rfl
 rw [Count_eq s 13 (by omega), bind_some_, CountCrlf_eq s (by omega), bind_some_, t13]
 congr 1
 rw [Bool.eq_iff_iff]
 simp
 constructor <;> (intro h h'; apply h; omega)
theorem unfold_fin (l : List Int) (hl : l.length ≤ 1000000) (hb : Bytes l) : ((strings_Split.f (strOfNums l) (⟨#[10]⟩ : ByteArray)).bind fun t126 => (if 0 ≤ (wrap64 ((t126.length : Int) - 1)) then (if (wrap64 ((t126.length : Int) - 1)) < (t126.length : Int) then (if (rdOf ByteArray.empty t126 (wrap64 ((t126.length : Int) - 1))).toList = ([] : List UInt8) then (if (wrap64 ((t126.length : Int) - 1)) ≤ (t126.length : Int) then (some ((t126.take ((wrap64 ((t126.length : Int) - 1)) : Int).toNat), (0 : Int))) else (none)) else (some (t126, 0))) else (none)) else (none))) = some ((dropE (spl 10 l)).map strOfNums, 0) := by
 have hne : (⟨#[]⟩ : ByteArray).toList = ([] : List UInt8) := by rw [ByteArray.toList_eq]
 have hs := split_f_eq (s := strOfNums l) 10 (by rw [size_strOf]; omega)
 have t10 : ((10 : UInt8).toNat : Int) = 10 := rfl
 rw [bytes_strOf hb, t10] at hs
 have hsb := spl_bytes (c := 10) hb
 have hlen : (spl 10 l).length ≤ l.length + 1 := by
  have : ∀ m : List Int, (spl 10 m).length ≤ m.length + 1 := by
   intro m
   induction m with
   | nil => simp [spl]
   | cons x m ih =>
    rw [spl]
    split
    ·rw [List.length_cons, List.length_cons]; omega
    ·split
     ·simp
     ·rename_i y ys hy
      rw [hy, List.length_cons] at ih
      rw [List.length_cons, List.length_cons]; omega
  exact this l
 rw [hs, bind_some_, List.length_map]
 have hn0 := spl_ne 10 l
 generalize hL : spl 10 l = L at *
 obtain ⟨A, z, rfl⟩ : ∃ A z, L = A ++ [z] := ⟨L.dropLast, L.getLast hn0, (List.dropLast_concat_getLast hn0).symm⟩
 rw [List.length_append, List.length_singleton] at *
 have hr : rdOf ByteArray.empty ((A ++ [z]).map strOfNums) (((A.length + 1 : Nat) : Int) - 1) = strOfNums z := by
  unfold rdOf
  rw [show (((A.length + 1 : Nat) : Int) - 1).toNat = A.length by omega, List.map_append, List.getD_eq_getElem?_getD, List.getElem?_append_right (by rw [List.length_map]; exact Nat.le_refl _), List.length_map]
  simp
 rw [wrap64_id (n := ((A.length + 1 : Nat) : Int) - 1) (by omega) (by omega), if_pos (by omega), if_pos (by omega), hr]
 unfold dropE
 by_cases h : z = []
 ·rw [if_pos (by rw [h]; exact hne), if_pos (by omega), if_pos (by rw [h]; simp), show (((A.length + 1 : Nat) : Int) - 1).toNat = A.length by omega, List.dropLast_concat, List.map_append]
  congr 2
  have := List.take_left (l₁ := A.map strOfNums) (l₂ := [z].map strOfNums)
  rw [List.length_map] at this
  exact this
 ·have hz : ¬ (strOfNums z).toList = ([] : List UInt8) := fun h' => by
   rw [← hne, toList_iff] at h'
   have hzb := hsb z (by simp)
   have e := congrArg bytesOf h'
   rw [bytes_strOf hzb] at e
   exact h e
  rw [if_neg hz, if_neg (by simpa using h)]
theorem Unfold_L0 (m : ByteArray) (hm : m.size ≤ 900000) : ∀ (n : Nat) (i : Int) (acc : List Int), 0 ≤ i → i ≤ (m.size : Int) → (rest m i).length ≤ n → acc.length + (rest m i).length ≤ 900000 → Bytes acc →
  fold_Unfold.L0 m acc i = some ((dropE (spl 10 (acc ++ ub (rest m i)))).map strOfNums, 0) := by
 intro n
 induction n with
 | zero =>
  intro i acc h0 h1 hn ha hb
  have hl := rest_length m i
  rw [fold_Unfold.L0_eq, if_neg (by omega), rest_nil (by omega), unfold_fin acc (by omega) hb]
  show _ = some ((dropE (spl 10 (acc ++ []))).map strOfNums, 0)
  rw [List.append_nil]
 | succ n ih =>
  intro i acc h0 h1 hn ha hb
  have hl := rest_length m i
  by_cases hlt : i < (m.size : Int)
  ·have hr := rest_cons h0 hlt
   have hbt := bt_range m i
   have put : ¬ (bt m i = 10 ∧ blk (rest m (i + 1)).head?) → fold_Unfold.L0 m (acc ++ [bt m i]) (i + 1) = some ((dropE (spl 10 (acc ++ ub (rest m i)))).map strOfNums, 0) := by
    intro h
    have hl1 := rest_length m (i + 1)
    rw [ih (i + 1) _ (by omega) (by omega) (by omega) (by rw [List.length_append, List.length_singleton]; omega) (Bytes.app hb (Bytes.cons hbt.1 hbt.2 Bytes.nil)), hr, ub_put h, List.append_assoc]
    rfl
   rw [fold_Unfold.L0_eq, if_pos hlt, if_pos h0, wrap64_id (n := i + 1) (by omega) (by omega)]
   by_cases c10 : bt m i = 10
   ·rw [if_pos c10]
    by_cases h2 : i + 1 < (m.size : Int)
    ·have hr2 := rest_cons (s := m) (i := i + 1) (by omega) h2
     rw [if_pos h2, if_pos (by omega), wrap64_id (n := i + 1 + 1) (by omega) (by omega)]
     have skip : (bt m (i + 1) = 32 ∨ bt m (i + 1) = 9) → fold_Unfold.L0 m acc (i + 1 + 1) = some ((dropE (spl 10 (acc ++ ub (rest m i)))).map strOfNums, 0) := by
      intro h
      have hl2 := rest_length m (i + 1 + 1)
      rw [ih (i + 1 + 1) acc (by omega) (by omega) (by omega) (by omega) hb, hr, hr2, c10, ub_skip h]
     by_cases c1 : bt m (i + 1) = 32
     ·rw [if_pos c1]
      exact skip (Or.inl c1)
     ·rw [if_neg c1]
      by_cases c2 : bt m (i + 1) = 9
      ·rw [if_pos c2]
       exact skip (Or.inr c2)
      ·rw [if_neg c2, if_pos (by omega)]
       refine put fun h => ?_
       have hh := h.2
       rw [hr2, List.head?_cons] at hh
       rcases hh with e | e
       ·exact c1 (Option.some.inj e)
       ·exact c2 (Option.some.inj e)
    ·rw [if_neg h2, if_pos (by omega)]
     refine put fun h => ?_
     have hh := h.2
     rw [rest_nil (by omega)] at hh
     rcases hh with e | e <;> cases e
   ·rw [if_neg c10, if_pos (by omega)]
    exact put fun h => c10 h.1
  ·rw [fold_Unfold.L0_eq, if_neg hlt, rest_nil (by omega), unfold_fin acc (by omega) hb]
   show _ = some ((dropE (spl 10 (acc ++ []))).map strOfNums, 0)
   rw [List.append_nil]
def encU : Option (List (List Int)) → List ByteArray × Int
 | some l => (l.map strOfNums, 0)
 | none => (([] : List ByteArray), 18)
theorem Unfold_eq (s : ByteArray) (hs : s.size ≤ 600000) : fold_Unfold.F s = some (encU (unfS (bytesOf s))) := by
 have hz := bytesOf_length s
 have hrl := rp_le (bytesOf s)
 rw [fold_Unfold.F_eq, if_neg (by omega), lone_eq s (by omega), bind_some_]
 unfold unfS
 by_cases h : (bytesOf s).count 13 = cl (bytesOf s)
 ·have hu := Unfold_L0 (strOfNums (rp (bytesOf s))) (by rw [size_strOf]; omega) _ 0 [] (by omega) (by omega) (Nat.le_refl _) (by rw [rest_length, size_strOf]; simp; omega) Bytes.nil
  rw [rest_zero, bytes_strOf (rp_bytes (bytes_of s)), List.nil_append] at hu
  rw [decide_eq_true h, if_neg (by simp), ReplaceAll_eq s (by omega), bind_some_, if_pos h, hu]
  rfl
 ·rw [decide_eq_false h, if_pos (by rfl), if_neg h]
  rfl
end Go.Proofs.YtdgeokpbedllaaaDoor.Base
