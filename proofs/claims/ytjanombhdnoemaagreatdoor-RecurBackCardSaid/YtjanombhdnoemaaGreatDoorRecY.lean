-- A text of the kit's tools for this claim, its remarks left out.
import Derived.Test.YtjanombhdnoemaaGreatDoorRecO
import Derived.Test.YtjanombhdnoemaaGreatDoorERechRecG
import Derived.Test.YtjanombhdnoemaaGreatDoorERechRecQ
-- A text of the kit's tools for this claim, its remarks left out.
-- A text of the kit's tools for this claim, its remarks left out.
namespace Go.Proofs.YtjanombhdnoemaaGreatDoor.Base
open Go.RowKit Go.Proofs.YtjanombhdnoemaaGreatDoor.PRec Go.Proofs.YtjanombhdnoemaaGreatDoorW.PrintWords Go.Proofs.YtjanombhdnoemaaGreatDoorW.PrintLast Go.Proofs.YtjanombhdnoemaaGreatDoorW.PrintMore
set_option linter.unusedVariables false
set_option linter.unusedSimpArgs false
theorem txt1 {n : Int} (h : 0 ≤ n) : txt n 1 = digs n.toNat := by
 have hl := digs_pos n.toNat
 have hw : wide 1 = 1 := by decide
 unfold txt
 rw [if_neg (by omega), hw, show 1 - (digs n.toNat).length = 0 by omega]
 rfl
def sgn (n : Int) : List Int := if n < 0 then 45 :: txt (-n) 1 else txt n 1
theorem sgn_bytes (n : Int) : Bytes (sgn n) := by
 unfold sgn
 split
 ·exact Bytes.cons (by omega) (by omega) (txt_bytes _ _)
 ·exact txt_bytes _ _
theorem txt1_len {n : Int} (h : 0 ≤ n ∧ n ≤ 9223372036854775807) : (txt n 1).length ≤ 20 := by rw [txt1 h.1]; exact digs_len20 h.2
theorem sgn_len {n : Int} (h : -100000 ≤ n ∧ n ≤ 100000) : (sgn n).length ≤ 21 := by
 unfold sgn
 split
 ·have := txt1_len (n := -n) (by omega)
  rw [List.length_cons]; omega
 ·have := txt1_len (n := n) (by omega)
  omega
theorem signed_eq (n : Int) (h : -100000 ≤ n ∧ n ≤ 100000) : recur_signed.f n = some (strOfNums (sgn n)) := by
 unfold recur_signed.f sgn
 by_cases h0 : n < 0
 ·have hl := txt1_len (n := -n) (by omega)
  rw [if_pos h0, if_pos h0, wrap64_id (by omega) (by omega), num_Text_eq _ _ (by omega) (by omega), bind_some_, size_strOf, if_pos (by omega), show (⟨#[45]⟩ : ByteArray) = strOfNums [45] from rfl, strOf_append]
  rfl
 ·rw [if_neg h0, if_neg h0, num_Text_eq _ _ (by omega) (by omega), bind_some_]
theorem join_any (c : UInt8) (xs : List (List Int)) (hl : xs.length ≤ 100000) (h : ∀ x ∈ xs, x.length ≤ 1000000 ∧ Bytes x) : strings_Join.f (xs.map strOfNums) (⟨#[c]⟩ : ByteArray) = some (strOfNums (jn [(c.toNat : Int)] xs)) := by
 have eb : (xs.map strOfNums).map bytesOf = xs := by
  rw [List.map_map]
  conv => rhs; rw [← List.map_id xs]
  exact List.map_congr_left fun x hx => bytes_strOf (h x hx).2
 have e : bytesOf (⟨(Lib.join ((xs.map strOfNums).map (·.data.toList)) (⟨#[c]⟩ : ByteArray).data.toList).toArray⟩ : ByteArray) = jn [(c.toNat : Int)] xs := by
  have := bytes_join (⟨#[c]⟩ : ByteArray) (xs.map strOfNums)
  rw [eb] at this
  exact this
 have hlen := bytes_length_mk (Lib.join ((xs.map strOfNums).map (·.data.toList)) (⟨#[c]⟩ : ByteArray).data.toList)
 have hj := jn_length [(c.toNat : Int)] 1000000 xs (fun x hx => (h x hx).1)
 rw [List.length_singleton] at hj
 have hm : xs.length * (1000000 + 1) ≤ 100000 * 1000001 := Nat.mul_le_mul_right _ hl
 unfold strings_Join.f
 rw [if_pos ⟨by rw [List.length_map]; omega, by rw [← hlen, e]; omega⟩, ← e, strOf_bytes]
def wdT (i : Int) : List Int := bytesOf (rdOf ByteArray.empty WDs i)
def txD (x : S38) : List Int := (if x.f0 = 0 then [] else sgn x.f0) ++ wdT x.f1
theorem wdT_len {i : Int} (h : 0 ≤ i ∧ i ≤ 6) : (wdT i).length = 2 := by
 have hi : i = 0 ∨ i = 1 ∨ i = 2 ∨ i = 3 ∨ i = 4 ∨ i = 5 ∨ i = 6 := by omega
 rcases hi with h | h | h | h | h | h | h <;> (subst h; rfl)
theorem txD_bytes (x : S38) : Bytes (txD x) := by
 unfold txD
 refine Bytes.app ?_ (bytes_of _)
 split
 ·exact Bytes.nil
 ·exact sgn_bytes _
theorem txD_len {x : S38} (h : 0 ≤ x.f1 ∧ x.f1 ≤ 6) (h' : -100000 ≤ x.f0 ∧ x.f0 ≤ 100000) : (txD x).length ≤ 23 := by
 have h1 := wdT_len h
 have h2 := sgn_len h'
 unfold txD
 rw [List.length_append]
 split
 ·rw [List.length_nil]; omega
 ·omega
theorem day_eq (x : S38) (h : 0 ≤ x.f1 ∧ x.f1 ≤ 6) (h' : -100000 ≤ x.f0 ∧ x.f0 ≤ 100000) : rt_day x = some (strOfNums (txD x)) := by
 unfold rt_day txD
 show (if 0 ≤ x.f1 then (if x.f1 < (WDs.length : Int) then (if x.f0 = 0 then some (rdOf ByteArray.empty WDs x.f1) else ((recur_signed.f x.f0).bind fun t => if t.size + (rdOf ByteArray.empty WDs x.f1).size ≤ 9223372036854775807 then some (t ++ rdOf ByteArray.empty WDs x.f1) else none)) else none) else none) = _
 have hl : WDs.length = 7 := rfl
 have h1 := wdT_len h
 have h2 := sgn_len h'
 unfold wdT at *
 rw [bytesOf_length] at h1
 rw [if_pos h.1, if_pos (by omega)]
 by_cases h0 : x.f0 = 0
 ·rw [if_pos h0, if_pos h0, List.nil_append, strOf_bytes]
 ·rw [if_neg h0, if_neg h0, signed_eq _ h', bind_some_, size_strOf, if_pos (by omega), ← strOf_append, strOf_bytes]
theorem words_L0 (d : List S38) (hd : ∀ x ∈ d, (0 ≤ x.f1 ∧ x.f1 ≤ 6) ∧ -100000 ≤ x.f0 ∧ x.f0 ≤ 100000) (hl : d.length ≤ 100000) : ∀ (n : Nat) (i : Int) (acc : List ByteArray), n = d.length - i.toNat → 0 ≤ i → i ≤ (d.length : Int) → (acc.length : Int) ≤ i → rt_words.L0 d acc i = some (acc ++ ((d.drop i.toNat).map txD).map strOfNums) := by
 intro n
 induction n with
 | zero =>
  intro i acc hn h0 h1 ha
  rw [rt_words.L0_eq, if_neg (by omega), drop_nil_ (by omega)]
  simp
 | succ n ih =>
  intro i acc hn h0 h1 ha
  have hi : i < (d.length : Int) := by omega
  have hm := hd _ (rdOf_mem z38 h0 hi)
  rw [rt_words.L0_eq, if_pos hi, if_pos h0, show rd_T38 d i = rdOf z38 d i from rfl, day_eq _ hm.1 hm.2, bind_some_, if_pos (by omega), wrap64_id (by omega) (by omega), ih (i + 1) _ (by omega) (by omega) (by omega) (by rw [List.length_append, List.length_singleton]; omega), drop_cons_ z38 h0 hi, List.map_cons, List.map_cons, List.append_assoc]
  rfl
def lsT (p : ByteArray × List Int) : List (List Int) := if p.2 = [] then [] else [bytesOf p.1 ++ 61 :: jn [44] (p.2.map sgn)]
def Sml (l : List Int) : Prop := (∀ x ∈ l, -100000 ≤ x ∧ x ≤ 100000) ∧ l.length ≤ 10000
theorem texts_L1 (l : List Int) (hs : Sml l) : ∀ (n : Nat) (i : Int) (acc : List ByteArray), n = l.length - i.toNat → 0 ≤ i → i ≤ (l.length : Int) → (acc.length : Int) ≤ i → recur_texts.L1 l acc i = some (acc ++ ((l.drop i.toNat).map sgn).map strOfNums) := by
 intro n
 have hl := hs.2
 induction n with
 | zero =>
  intro i acc hn h0 h1 ha
  rw [recur_texts.L1_eq, if_neg (by omega), drop_nil_ (by omega)]
  simp
 | succ n ih =>
  intro i acc hn h0 h1 ha
  have hi : i < (l.length : Int) := by omega
  rw [recur_texts.L1_eq, if_pos hi, if_pos h0, show rd l i = rdOf 0 l i from rfl, signed_eq _ (hs.1 _ (rdOf_mem 0 h0 hi)), bind_some_, if_pos (by omega), wrap64_id (by omega) (by omega), ih (i + 1) _ (by omega) (by omega) (by omega) (by rw [List.length_append, List.length_singleton]; omega), drop_cons_ 0 h0 hi, List.map_cons, List.map_cons, List.append_assoc]
  rfl
theorem texts_L0 (ls : List (ByteArray × List Int)) (hs : ∀ p ∈ ls, p.1.size ≤ 100 ∧ Sml p.2) (hl : ls.length ≤ 100) : ∀ (n : Nat) (i : Int) (acc : List ByteArray), n = ls.length - i.toNat → 0 ≤ i → i ≤ (ls.length : Int) → (acc.length : Int) ≤ i → recur_texts.L0 ls acc i = some (acc ++ ((ls.drop i.toNat).flatMap lsT).map strOfNums) := by
 intro n
 induction n with
 | zero =>
  intro i acc hn h0 h1 ha
  rw [recur_texts.L0_eq, if_neg (by omega), drop_nil_ (by omega)]
  simp
 | succ n ih =>
  intro i acc hn h0 h1 ha
  have hi : i < (ls.length : Int) := by omega
  have hm := hs _ (rdOf_mem ((⟨#[]⟩ : ByteArray), ([] : List Int)) h0 hi)
  rw [recur_texts.L0_eq, if_pos hi, if_pos h0, texts_L1 _ hm.2 _ 0 [] rfl (by omega) (by omega) (by simp), bind_some_, recur_texts.J2_eq, drop_cons_ ((⟨#[]⟩ : ByteArray), ([] : List Int)) h0 hi, List.flatMap_cons, List.map_append]
  generalize rdOf ((⟨#[]⟩ : ByteArray), ([] : List Int)) ls i = p at hm
  obtain ⟨nm, l⟩ := p
  obtain ⟨hm1, hm2, hm3⟩ := hm
  dsimp only at hm1 hm2 hm3
  dsimp only
  rw [show List.drop (0 : Int).toNat l = l from rfl, List.nil_append, show lsT (nm, l) = if l = [] then [] else [bytesOf nm ++ 61 :: jn [44] (l.map sgn)] from rfl]
  by_cases h : l = []
  ·rw [if_neg (by rw [h]; decide), if_pos h, wrap64_id (by omega) (by omega), ih (i + 1) _ (by omega) (by omega) (by omega) (by omega)]
   rfl
  ·have hp : 0 < l.length := List.length_pos_iff.2 h
   have hx : ∀ x ∈ l.map sgn, x.length ≤ 1000000 ∧ Bytes x := by
    intro x hx
    obtain ⟨y, hy, rfl⟩ := List.mem_map.1 hx
    have := sgn_len (hm2 y hy)
    exact ⟨by omega, sgn_bytes y⟩
   have hj := jn_length [44] 21 (l.map sgn) (by
    intro x hx
    obtain ⟨y, hy, rfl⟩ := List.mem_map.1 hx
    exact sgn_len (hm2 y hy))
   rw [List.length_map, List.length_singleton] at hj
   have hlm : (((l.map sgn).map strOfNums).length : Int) > 0 := by rw [List.length_map, List.length_map]; omega
   have hjn : strings_Join.f ((l.map sgn).map strOfNums) (⟨#[44]⟩ : ByteArray) = some (strOfNums (jn [44] (l.map sgn))) := join_any 44 (l.map sgn) (by rw [List.length_map]; omega) hx
   have hm' : l.length * (21 + 1) ≤ 10000 * 22 := Nat.mul_le_mul_right _ hm3
   rw [if_pos hlm, if_pos (by omega), hjn, bind_some_, size_strOf, if_pos (by rw [ByteArray.size_append]; show nm.size + 1 + _ ≤ _; omega), if_pos (by omega), if_neg h, wrap64_id (by omega) (by omega), ih (i + 1) _ (by omega) (by omega) (by omega) (by rw [List.length_append, List.length_singleton]; omega), List.append_assoc]
   congr 3
   show _ :: _ = _ :: _
   congr 1
   apply bytes_inj
   rw [bytes_append, bytes_append, bytes_strOf (jn_bytes (Bytes.cons (by omega) (by omega) Bytes.nil) _ (fun x hx' => (hx x hx').2)), bytes_strOf (Bytes.app (bytes_of _) (Bytes.cons (by omega) (by omega) (jn_bytes (Bytes.cons (by omega) (by omega) Bytes.nil) _ (fun x hx' => (hx x hx').2)))), List.append_assoc]
   rfl
theorem texts_eq (ls : List (ByteArray × List Int)) (hs : ∀ p ∈ ls, p.1.size ≤ 100 ∧ Sml p.2) (hl : ls.length ≤ 100) : recur_texts.F ls = some ((ls.flatMap lsT).map strOfNums) := by
 rw [recur_texts.F_eq, texts_L0 ls hs hl _ 0 [] rfl (by omega) (by omega) (by simp)]
 rfl
end Go.Proofs.YtjanombhdnoemaaGreatDoor.Base

namespace Go.Proofs.YtjanombhdnoemaaGreatDoor.Base
open Go.RowKit Go.Proofs.YtjanombhdnoemaaGreatDoor.PRec Go.Proofs.YtjanombhdnoemaaGreatDoorW.PrintWords Go.Proofs.YtjanombhdnoemaaGreatDoorW.PrintLast Go.Proofs.YtjanombhdnoemaaGreatDoorW.PrintMore
set_option linter.unusedVariables false
set_option linter.unusedSimpArgs false
noncomputable def tmT (t : Int) (z : Bool) : List Int := match value_Time.F t z with
 | some (s, _) => bytesOf s
 | none => []
theorem year_ex {t : Int} (h : yearB t = true) : ∃ y m d, Dt y m d ∧ 1 ≤ y ∧ y ≤ 9999 ∧ t / 86400 = dn y m d := by
 have h' : -719162 ≤ t / 86400 ∧ t / 86400 < 2932897 := of_decide_eq_true h
 obtain ⟨y, m, d, hD, e, _⟩ := Date_ex (n := t / 86400) (by omega)
 have d1 : Dt 1 1 1 := by decide
 have d2 : Dt 10000 1 1 := by decide
 have e1 : dn 1 1 1 = -719162 := by decide
 have e2 : dn 10000 1 1 = 2932897 := by decide
 refine ⟨y, m, d, hD, ?_, ?_, e⟩
 ·by_cases hy : 1 ≤ y
  ·exact hy
  ·have := dn_lt hD d1 (Or.inl (by omega)); omega
 ·by_cases hy : y ≤ 9999
  ·exact hy
  ·have h5 := hD.2.2.1
   have h6 := hD.2.2.2.2.1
   by_cases h7 : 10000 < y ∨ 10000 = y ∧ (1 < m ∨ 1 = m ∧ 1 < d)
   ·have := dn_lt d2 hD h7; omega
   ·have : y = 10000 ∧ m = 1 ∧ d = 1 := by omega
    obtain ⟨rfl, rfl, rfl⟩ := this
    omega
theorem dig_ne {l : List Int} (h : l.all isDig = true) (c : Int) (hc : c < 48 ∨ 57 < c) : ∀ x ∈ l, x ≠ c := by
 intro x hx e
 have := (isDig_iff x).1 (List.all_eq_true.1 h x hx)
 omega
theorem ttx_ne (y m d h i s : Int) (u : Bool) (hy : 0 ≤ y ∧ y < 10000) (hm : 0 ≤ m ∧ m < 100) (hd : 0 ≤ d ∧ d < 100) (hh : 0 ≤ h ∧ h < 100) (hi : 0 ≤ i ∧ i < 100) (hs : 0 ≤ s ∧ s < 100) (c : Int) (hc : c < 48 ∨ 57 < c ∧ c < 84) : (∀ x ∈ ttx y m d h i s u, x ≠ c) ∧ (ttx y m d h i s u).length ≤ 16 := by
 have ey := four_dig hy
 have em := two_dig hm
 have ed := two_dig hd
 have eh := two_dig hh
 have ei := two_dig hi
 have es := two_dig hs
 unfold ttx
 constructor
 ·intro x hx
  simp only [List.mem_append, List.mem_singleton] at hx
  rcases hx with hx | hx | hx | hx | hx | hx | hx | hx
  ·exact dig_ne ey.1 c (by omega) x hx
  ·exact dig_ne em.1 c (by omega) x hx
  ·exact dig_ne ed.1 c (by omega) x hx
  ·omega
  ·exact dig_ne eh.1 c (by omega) x hx
  ·exact dig_ne ei.1 c (by omega) x hx
  ·exact dig_ne es.1 c (by omega) x hx
  ·split at hx
   ·rw [List.mem_singleton] at hx; omega
   ·cases hx
 ·simp only [List.length_append, List.length_singleton, ey.2.2, em.2.2, ed.2.2, eh.2.2, ei.2.2, es.2.2]
  split
  ·rw [List.length_singleton]; omega
  ·rw [List.length_nil]; omega
theorem time_ok {t : Int} (z : Bool) (h : yearB t = true) : value_Time.F t z = some (strOfNums (tmT t z), 0) ∧ ptS (tmT t z) = some (t, z) ∧ (tmT t z).length ≤ 16 ∧ Bytes (tmT t z) ∧ (∀ c, (c < 48 ∨ 57 < c ∧ c < 84) → ∀ x ∈ tmT t z, x ≠ c) := by
 obtain ⟨y, m, d, hD, hy1, hy2, e⟩ := year_ex h
 have hF := Time_eq z y m d t hD ⟨hy1, hy2⟩ e
 have hb := ttx_bytes y m d (t % 86400 / 3600) (t % 86400 % 3600 / 60) (t % 86400 % 60) z
 have et : tmT t z = ttx y m d (t % 86400 / 3600) (t % 86400 % 3600 / 60) (t % 86400 % 60) z := by
  unfold tmT
  rw [hF]
  exact bytes_strOf hb
 have hl := ml_le y m
 have hD' := hD
 obtain ⟨h0, h1, h2, h3, h4, h5⟩ := hD'
 have hn := fun c hc => ttx_ne y m d (t % 86400 / 3600) (t % 86400 % 3600 / 60) (t % 86400 % 60) z (by omega) (by omega) (by omega) (by omega) (by omega) (by omega) c hc
 rw [et]
 refine ⟨hF, ?_, (hn 0 (by omega)).2, hb, fun c hc => (hn c hc).1⟩
 rw [ptS_ttx y m d _ _ _ z hD ⟨hy1, hy2⟩ (by omega) (by omega) (by omega), ← e]
 congr 2
 omega
abbrev Prt := List Int × List Int × Upd
def pcT (p : Prt) : List Int := p.1 ++ 61 :: p.2.1
def nF : List Int := [70, 82, 69, 81]
def nI : List Int := [73, 78, 84, 69, 82, 86, 65, 76]
def nC : List Int := [67, 79, 85, 78, 84]
def nU : List Int := [85, 78, 84, 73, 76]
def nD : List Int := [66, 89, 68, 65, 89]
def nW : List Int := [87, 75, 83, 84]
def lsP (p : ByteArray × Nat × Bool) (l : List Int) : List Prt := if l = [] then [] else [(bytesOf p.1, jn [44] (l.map sgn), Upd.lst p.2.1 l)]
noncomputable def P3 (x : RV) : List Prt :=
 [(nF, bytesOf (rdOf ByteArray.empty FRs (x.n 0 - 1)), .num 0 (x.n 0))] ++
 ((if x.n 1 > 1 then [(nI, txt (x.n 1) 1, .num 1 (x.n 1))] else []) ++
 ((if x.n 2 > 0 then [(nC, txt (x.n 2) 1, .num 2 (x.n 2))] else []) ++
 ((if x.u = true then [(nU, tmT x.t x.z, .til x.t x.z)] else []) ++
 ((ptL.take 4).flatMap (fun p => lsP p (x.l p.2.1)) ++
 ((if x.d = [] then [] else [(nD, jn [44] (x.d.map txD), .dys x.d)]) ++
 ((ptL.drop 4).flatMap (fun p => lsP p (x.l p.2.1)) ++
 (if x.n 15 = 1 then [] else [(nW, wdT (x.n 15), .num 15 (x.n 15))])))))))
theorem digs6 {n : Int} (h : 0 ≤ n ∧ n ≤ 999999) : parsS (digs n.toNat) = (n, true) ∧ (digs n.toNat).length ≤ 6 := by
 have h1 := digs_pos n.toNat
 have h2 := digs_len n.toNat 6 (by omega) (by omega)
 refine ⟨?_, h2⟩
 unfold parsS
 rw [if_pos ⟨h1, by omega, digs_dig _⟩, digs_val]
 congr 1
 omega
theorem digs_cons (n : Nat) : ∃ c r, digs n = c :: r ∧ 48 ≤ c ∧ c ≤ 57 := by
 have h1 := digs_pos n
 have h2 := digs_dig n
 cases h : digs n with
 | nil => rw [h] at h1; simp at h1
 | cons c r =>
  rw [h, List.all_cons, Bool.and_eq_true, isDig_iff] at h2
  exact ⟨c, r, rfl, h2.1⟩
theorem nmS_pos (sg : Bool) {n : Int} (h : 0 ≤ n ∧ n ≤ 999999) : nmS sg (txt n 1) = (n, true) := by
 rw [txt1 h.1]
 obtain ⟨h1, h2⟩ := digs6 h
 obtain ⟨c, r, e, hc⟩ := digs_cons n.toNat
 rw [e] at h1 h2 ⊢
 rw [nmS, if_neg (fun h' => by omega), h1, decide_eq_true h2]
 rfl
def InS (ng : Bool) (n : Int) : Prop := (0 ≤ n ∧ n ≤ 99999) ∨ (ng = true ∧ -99999 ≤ n ∧ n < 0)
theorem nmS_sgn {ng : Bool} {n : Int} (h : InS ng n) : nmS ng (sgn n) = (n, true) := by
 unfold sgn
 rcases h with h | ⟨rfl, h⟩
 ·rw [if_neg (by omega)]
  exact nmS_pos ng (by omega)
 ·rw [if_pos (by omega), txt1 (by omega)]
  obtain ⟨h1, h2⟩ := digs6 (n := -n) (by omega)
  rw [nmS, if_pos ⟨rfl, Or.inr rfl⟩, if_pos rfl, h1, decide_eq_true h2]
  congr 1
  omega
theorem sgn_ne (n : Int) (c : Int) (hc : c < 45 ∨ 57 < c ∨ c = 47 ∨ c = 46) : ∀ x ∈ sgn n, x ≠ c := by
 have hd : ∀ m : Int, ∀ x ∈ txt m 1, 48 ≤ x ∧ x ≤ 57 := by
  intro m x hx
  by_cases hm : m < 0
  ·unfold txt at hx
   rw [if_pos hm] at hx
   cases hx
  ·rw [txt1 (by omega)] at hx
   exact (isDig_iff x).1 (List.all_eq_true.1 (digs_dig _) x hx)
 intro x hx
 unfold sgn at hx
 split at hx
 ·rcases List.mem_cons.1 hx with rfl | hx
  ·omega
  ·have := hd _ x hx; omega
 ·have := hd _ x hx; omega
theorem nsR_sgn {ng : Bool} : ∀ {l : List Int}, (∀ n ∈ l, InS ng n) → nsR ng (l.map sgn) = some l
 | [], _ => rfl
 | n :: l, h => by
  have h1 := nmS_sgn (h n (List.mem_cons_self ..))
  rw [List.map_cons, nsR, h1, if_pos rfl, nsR_sgn (fun m hm => h m (List.mem_cons_of_mem _ hm))]
  rfl
theorem nsS_sgn {ng : Bool} {l : List Int} (hl : l ≠ []) (h : ∀ n ∈ l, InS ng n) : nsS ng (jn [44] (l.map sgn)) = (l, true) := by
 unfold nsS
 rw [spl_jn (by simpa using hl), nsR_sgn h]
 ·rfl
 ·intro p hp x hx
  obtain ⟨n, _, rfl⟩ := List.mem_map.1 hp
  exact sgn_ne n 44 (Or.inl (by omega)) x hx
theorem wdS_wd {i : Int} (h : 0 ≤ i ∧ i ≤ 6) : wdS WDs (wdT i) = (i, true) := by
 have hi : i = 0 ∨ i = 1 ∨ i = 2 ∨ i = 3 ∨ i = 4 ∨ i = 5 ∨ i = 6 := by omega
 rcases hi with h | h | h | h | h | h | h <;> (subst h; decide +kernel)
theorem wdS_fr {i : Int} (h : 0 ≤ i ∧ i ≤ 6) : wdS FRs (bytesOf (rdOf ByteArray.empty FRs i)) = (i, true) := by
 have hi : i = 0 ∨ i = 1 ∨ i = 2 ∨ i = 3 ∨ i = 4 ∨ i = 5 ∨ i = 6 := by omega
 rcases hi with h | h | h | h | h | h | h <;> (subst h; decide +kernel)
theorem bdS_txD {x : S38} (h : 0 ≤ x.f1 ∧ x.f1 ≤ 6) (h0 : -53 ≤ x.f0 ∧ x.f0 ≤ 53) : bdS (txD x) = (x.f0, x.f1, true) := by
 have hl := wdT_len h
 have key : ∀ a : List Int, (a ++ wdT x.f1).length - 2 = a.length ∧ (a ++ wdT x.f1).drop a.length = wdT x.f1 ∧ (a ++ wdT x.f1).take a.length = a := by
  intro a
  exact ⟨by rw [List.length_append]; omega, List.drop_left, List.take_left⟩
 unfold txD bdS
 obtain ⟨k1, k2, k3⟩ := key (if x.f0 = 0 then [] else sgn x.f0)
 rw [k1, k2, k3, wdS_wd h]
 by_cases hz : x.f0 = 0
 ·rw [if_pos hz, hz]
  rfl
 ·have hn := nmS_sgn (ng := true) (n := x.f0) (by
   by_cases hp : 0 ≤ x.f0
   ·exact Or.inl (by omega)
   ·exact Or.inr ⟨rfl, by omega⟩)
  have hne : (sgn x.f0).length ≠ 0 := by
   intro e
   rw [List.length_eq_zero_iff.1 e] at hn
   have h2 := congrArg Prod.snd hn
   simp [nmS] at h2
  rw [if_neg hz, if_neg hne, hn, if_pos rfl, if_pos rfl, show (x.f0 != 0) = true by simpa using hz]
theorem bsR_txD : ∀ {d : List S38}, (∀ x ∈ d, (0 ≤ x.f1 ∧ x.f1 ≤ 6) ∧ -53 ≤ x.f0 ∧ x.f0 ≤ 53) → bsR (d.map txD) = some d
 | [], _ => rfl
 | x :: d, h => by
  have hx := h x (List.mem_cons_self ..)
  rw [List.map_cons, bsR, bdS_txD hx.1 hx.2, if_pos rfl, bsR_txD (fun m hm => h m (List.mem_cons_of_mem _ hm))]
  rfl
theorem wdT_ne {i : Int} (h : 0 ≤ i ∧ i ≤ 6) (c : Int) (hc : c < 65) : ∀ x ∈ wdT i, x ≠ c := by
 have hi : i = 0 ∨ i = 1 ∨ i = 2 ∨ i = 3 ∨ i = 4 ∨ i = 5 ∨ i = 6 := by omega
 have hall : ∀ x ∈ wdT i, 65 ≤ x := by
  rcases hi with h | h | h | h | h | h | h <;> (subst h; decide +kernel)
 intro x hx e
 have := hall x hx
 omega
theorem bsS_txD {d : List S38} (hl : d ≠ []) (h : ∀ x ∈ d, (0 ≤ x.f1 ∧ x.f1 ≤ 6) ∧ -53 ≤ x.f0 ∧ x.f0 ≤ 53) : bsS (jn [44] (d.map txD)) = (d, true) := by
 unfold bsS
 rw [spl_jn (by simpa using hl), bsR_txD h]
 ·rfl
 ·intro p hp x hx
  obtain ⟨n, hn, rfl⟩ := List.mem_map.1 hp
  unfold txD at hx
  rcases List.mem_append.1 hx with hx | hx
  ·split at hx
   ·cases hx
   ·exact sgn_ne _ 44 (Or.inl (by omega)) x hx
  ·exact wdT_ne (h n hn).1 44 (by omega) x hx
end Go.Proofs.YtjanombhdnoemaaGreatDoor.Base

namespace Go.Proofs.YtjanombhdnoemaaGreatDoor.Base
open Go.RowKit Go.Proofs.YtjanombhdnoemaaGreatDoor.PRec Go.Proofs.YtjanombhdnoemaaGreatDoorW.PrintWords Go.Proofs.YtjanombhdnoemaaGreatDoorW.PrintLast Go.Proofs.YtjanombhdnoemaaGreatDoorW.PrintMore
set_option linter.unusedVariables false
set_option linter.unusedSimpArgs false
noncomputable def TextV (x : RV) : Option (ByteArray × Int) := recur_Text.F (x.n 0) (x.n 1) (x.n 2) x.u x.t x.z (x.l 6) (x.l 7) (x.l 8) x.d (x.l 10) (x.l 11) (x.l 12) (x.l 13) (x.l 14) (x.n 15)
def okV (x : RV) : Bool := okR (x.n 0) (x.n 1) (x.n 2) x.u x.t x.z (x.l 6) (x.l 7) (x.l 8) x.d (x.l 10) (x.l 11) (x.l 12) (x.l 13) (x.l 14) (x.n 15)
def RowV (x : RV) : Prop := RowR x.t (x.l 6) (x.l 7) (x.l 8) x.d (x.l 10) (x.l 11) (x.l 12) (x.l 13) (x.l 14)
def Sz (x : RV) : Prop := (∀ c, (x.l c).length ≤ 2000) ∧ x.d.length ≤ 2000
theorem okL_in {lo hi : Int} {ng : Bool} {l : List Int} (h0 : 0 ≤ lo) (h1 : lo ≤ hi) (h2 : hi ≤ 1000) (h : okL lo hi ng l = true) : (∀ n ∈ l, (lo ≤ n ∧ n ≤ hi) ∨ (ng = true ∧ -hi ≤ n ∧ n ≤ -lo)) ∧ l.Nodup := by
 unfold okL at h
 rw [Bool.and_eq_true, Bool.not_eq_true', Bool.not_eq_true', dup_false] at h
 refine ⟨fun n hn => ?_, h.2.1⟩
 have := List.any_eq_false.1 h.1 n hn
 unfold wrI at this
 rw [wrap64_id (n := -lo) (by omega) (by omega), wrap64_id (n := -hi) (by omega) (by omega)] at this
 simp only [Bool.and_eq_true, Bool.or_eq_true, decide_eq_true_eq, Bool.not_eq_true', not_and, not_or] at this
 by_cases hr : n < lo ∨ hi < n
 ·right
  have := this hr
  cases ng with
  | true => exact ⟨rfl, by omega⟩
  | false => exact absurd rfl this.1.1
 ·left; omega
structure Rt (x : RV) : Prop where
 f : 1 ≤ x.n 0 ∧ x.n 0 ≤ 7
 i : 1 ≤ x.n 1 ∧ x.n 1 ≤ 1000
 w : 0 ≤ x.n 15 ∧ x.n 15 ≤ 6
 c : 0 ≤ x.n 2 ∧ x.n 2 ≤ 100000
 u : x.u = true → x.n 2 = 0 ∧ yearB x.t = true
 v : x.u = false → x.t = 0 ∧ x.z = false
 l : ∀ p ∈ ptL, ∀ n ∈ x.l p.2.1, InS p.2.2 n
 d : ∀ y ∈ x.d, (0 ≤ y.f1 ∧ y.f1 ≤ 6) ∧ -53 ≤ y.f0 ∧ y.f0 ≤ 53
theorem okD_in {a0 : Int} {l12 : List Int} {d : List S38} (h : okD a0 l12 d = true) : (∀ y ∈ d, (0 ≤ y.f1 ∧ y.f1 ≤ 6) ∧ -53 ≤ y.f0 ∧ y.f0 ≤ 53) ∧ d.Nodup := by
 unfold okD at h
 rw [Bool.and_eq_true, Bool.not_eq_true', Bool.not_eq_true', dup_false] at h
 refine ⟨fun y hy => ?_, h.2.1⟩
 have := List.any_eq_false.1 h.1 y hy
 unfold wrD at this
 by_cases h1 : y.f1 < 0
 ·rw [if_pos h1] at this; exact absurd rfl this
 rw [if_neg h1] at this
 by_cases h2 : y.f1 > 6
 ·rw [if_pos h2] at this; exact absurd rfl this
 rw [if_neg h2] at this
 by_cases h3 : y.f0 < -53
 ·rw [if_pos h3] at this; exact absurd rfl this
 rw [if_neg h3] at this
 by_cases h4 : y.f0 > 53
 ·rw [if_pos h4] at this; exact absurd rfl this
 omega
theorem Rt.of {x : RV} (h : okV x = true) : Rt x := by
 unfold okV okR okLs okE at h
 simp only [Bool.and_eq_true, decide_eq_true_eq] at h
 obtain ⟨⟨f1, f2, i1, i2, w1, w2⟩, ⟨c1, c2, hu⟩, ⟨h13, h12, h11, h10, h8, h7, h6, h14⟩, hd, hb⟩ := h
 refine ⟨⟨f1, f2⟩, ⟨i1, i2⟩, ⟨w1, w2⟩, ⟨c1, c2⟩, fun e => ?_, fun e => ?_, ?_, (okD_in hd).1⟩
 ·rw [if_pos e] at hu
  simpa using hu
 ·rw [if_neg (by rw [e]; decide)] at hu
  simpa using hu
 ·have g13 := (okL_in (by omega) (by omega) (by omega) h13).1
  have g12 := (okL_in (by omega) (by omega) (by omega) h12).1
  have g11 := (okL_in (by omega) (by omega) (by omega) h11).1
  have g10 := (okL_in (by omega) (by omega) (by omega) h10).1
  have g8 := (okL_in (by omega) (by omega) (by omega) h8).1
  have g7 := (okL_in (by omega) (by omega) (by omega) h7).1
  have g6 := (okL_in (by omega) (by omega) (by omega) h6).1
  have g14 := (okL_in (by omega) (by omega) (by omega) h14).1
  have key : ∀ {lo hi : Int} {ng : Bool} {l : List Int}, 0 ≤ lo → hi ≤ 1000 → (∀ n ∈ l, (lo ≤ n ∧ n ≤ hi) ∨ (ng = true ∧ -hi ≤ n ∧ n ≤ -lo)) → ∀ n ∈ l, InS ng n := by
   intro lo hi ng l a b hh n hn
   rcases hh n hn with h | ⟨e, h⟩
   ·exact Or.inl (by omega)
   ·by_cases hz : n = 0
    ·exact Or.inl (by omega)
    ·exact Or.inr ⟨e, by omega⟩
  intro p hp
  simp only [ptL, List.mem_cons, List.not_mem_nil, or_false] at hp
  rcases hp with h | h | h | h | h | h | h | h <;> subst h
  ·exact key (by omega) (by omega) g13
  ·exact key (by omega) (by omega) g12
  ·exact key (by omega) (by omega) g11
  ·exact key (by omega) (by omega) g10
  ·exact key (by omega) (by omega) g8
  ·exact key (by omega) (by omega) g7
  ·exact key (by omega) (by omega) g6
  ·exact key (by omega) (by omega) g14
theorem add_step {o : List (List Int)} {a b : List Int} (ha : a.length + b.length ≤ 1000000) (ho : o.length ≤ 1000) : rt_add (o.map strOfNums) (strOfNums a) (strOfNums b) = some ((o ++ [a ++ b]).map strOfNums) := by
 unfold rt_add
 rw [size_strOf, size_strOf, if_pos (by omega), List.length_map, if_pos (by omega), strOf_append, List.map_append]
 rfl
theorem num_step {o : List (List Int)} (nm : List Int) {m a : Int} (hn : nm.length ≤ 100) (hm : 0 ≤ m) (ha : a ≤ 100000) (ho : o.length ≤ 1000) : rt_num (strOfNums (nm ++ [61])) m a (o.map strOfNums) = some ((o ++ (if a > m then [nm ++ 61 :: txt a 1] else [])).map strOfNums) := by
 unfold rt_num
 by_cases h : a > m
 ·have hl := txt1_len (n := a) (by omega)
  rw [if_pos h, if_pos h, num_Text_eq _ _ (by omega) (by omega), bind_some_, add_step (by rw [List.length_append, List.length_singleton]; omega) ho, List.append_assoc]
  rfl
 ·rw [if_neg h, if_neg h, List.append_nil]
theorem until_step {o : List (List Int)} {u : Bool} {t : Int} {z : Bool} (h : u = true → yearB t = true) (ho : o.length ≤ 1000) : rt_until.F u t z (o.map strOfNums) = some ((o ++ (if u = true then [nU ++ 61 :: tmT t z] else [])).map strOfNums) := by
 rw [rt_until.F_eq]
 by_cases hu : u = true
 ·obtain ⟨hF, _, hl, _⟩ := time_ok (t := t) z (h hu)
  rw [if_pos hu, if_pos hu, hF, bind_some_]
  exact add_step (o := o) (a := nU ++ [61]) (b := tmT t z) (by show 6 + _ ≤ _; omega) ho
 ·rw [if_neg hu, if_neg hu, List.append_nil]
theorem lists_step {o : List (List Int)} {ls : List (ByteArray × List Int)} (hs : ∀ p ∈ ls, p.1.size ≤ 100 ∧ Sml p.2) (hl : ls.length ≤ 100) (ho : o.length ≤ 1000) : rt_lists.F ls (o.map strOfNums) = some ((o ++ ls.flatMap lsT).map strOfNums) := by
 have hf : ∀ ls : List (ByteArray × List Int), (ls.flatMap lsT).length ≤ ls.length := by
  intro ls
  induction ls with
  | nil => exact Nat.le_refl _
  | cons p ls ih =>
   rw [List.flatMap_cons, List.length_append, List.length_cons]
   have : (lsT p).length ≤ 1 := by unfold lsT; split <;> simp
   omega
 have := hf ls
 rw [rt_lists.F_eq, texts_eq ls hs hl, bind_some_, List.length_map, List.length_map, if_pos (by omega), List.map_append]
theorem byday_step {o : List (List Int)} {d : List S38} (hd : ∀ x ∈ d, (0 ≤ x.f1 ∧ x.f1 ≤ 6) ∧ -53 ≤ x.f0 ∧ x.f0 ≤ 53) (hl : d.length ≤ 10000) (ho : o.length ≤ 1000) : rt_byday ((d.map txD).map strOfNums) (o.map strOfNums) = some ((o ++ (if d = [] then [] else [nD ++ 61 :: jn [44] (d.map txD)])).map strOfNums) := by
 unfold rt_byday
 by_cases h : d = []
 ·rw [if_neg (by rw [h]; decide), if_pos h, List.append_nil]
 ·have hp : 0 < d.length := List.length_pos_iff.2 h
  have hx : ∀ x ∈ d.map txD, x.length ≤ 23 ∧ Bytes x := by
   intro x hx
   obtain ⟨y, hy, rfl⟩ := List.mem_map.1 hx
   have hy' := hd y hy
   exact ⟨txD_len hy'.1 (by omega), txD_bytes y⟩
  have hj := jn_length [44] 23 (d.map txD) (fun x hx' => (hx x hx').1)
  rw [List.length_map, List.length_singleton] at hj
  have hm' : d.length * (23 + 1) ≤ 10000 * 24 := Nat.mul_le_mul_right _ hl
  have hjn : strings_Join.f ((d.map txD).map strOfNums) (⟨#[44]⟩ : ByteArray) = some (strOfNums (jn [44] (d.map txD))) := join_any 44 (d.map txD) (by rw [List.length_map]; omega) (fun x hx' => ⟨by have := (hx x hx').1; omega, (hx x hx').2⟩)
  rw [if_pos (by rw [List.length_map, List.length_map]; omega), if_neg h, hjn, bind_some_]
  exact add_step (o := o) (a := nD ++ [61]) (b := jn [44] (d.map txD)) (by show 6 + _ ≤ _; omega) ho
theorem wkst_step {o : List (List Int)} {i : Int} (hi : 0 ≤ i ∧ i ≤ 6) (ho : o.length ≤ 1000) : rt_wkst i (o.map strOfNums) = some ((o ++ (if i = 1 then [] else [nW ++ 61 :: wdT i])).map strOfNums) := by
 unfold rt_wkst
 by_cases h : i = 1
 ·rw [if_pos h, if_pos h, List.append_nil]
 ·rw [if_neg h, if_neg h]
  show (if 0 ≤ i then (if i < (WDs.length : Int) then rt_add (o.map strOfNums) (⟨#[87, 75, 83, 84, 61]⟩ : ByteArray) (rdOf ByteArray.empty WDs i) else none) else none) = _
  have hl : WDs.length = 7 := rfl
  have h2 := wdT_len hi
  rw [if_pos hi.1, if_pos (by omega), show rdOf ByteArray.empty WDs i = strOfNums (wdT i) from (strOf_bytes _).symm]
  exact add_step (o := o) (a := nW ++ [61]) (b := wdT i) (by show 5 + _ ≤ _; omega) ho
theorem lsT_P (p : ByteArray × Nat × Bool) (l : List Int) : lsT (p.1, l) = (lsP p l).map pcT := by
 unfold lsT lsP
 dsimp only
 by_cases h : l = []
 ·rw [if_pos h, if_pos h]; rfl
 ·rw [if_neg h, if_neg h]; rfl
theorem if_map {α β : Type} {c : Prop} [Decidable c] (f : α → β) (a : α) : (if c then [a] else []).map f = if c then [f a] else [] := by split <;> rfl
theorem if_map' {α β : Type} {c : Prop} [Decidable c] (f : α → β) (a : α) : (if c then [] else [a]).map f = if c then [] else [f a] := by split <;> rfl
theorem if_len {α : Type} {c : Prop} [Decidable c] (a : α) : (if c then [a] else []).length ≤ 1 := by split <;> simp
theorem if_len' {α : Type} {c : Prop} [Decidable c] (a : α) : (if c then [] else [a]).length ≤ 1 := by split <;> simp
theorem lsT_len (p : ByteArray × List Int) : (lsT p).length ≤ 1 := by unfold lsT; exact if_len' _
theorem sml_of {x : RV} (h : Rt x) (hz : Sz x) {p : ByteArray × Nat × Bool} (hp : p ∈ ptL) : Sml (x.l p.2.1) := by
 refine ⟨fun n hn => ?_, by have := hz.1 p.2.1; omega⟩
 rcases h.l p hp n hn with h | ⟨_, h⟩ <;> omega
theorem bef_P (x : RV) : (rt_bef (x.l 13) (x.l 12) (x.l 11) (x.l 10)).flatMap lsT = ((ptL.take 4).flatMap (fun p => lsP p (x.l p.2.1))).map pcT := by
 rw [List.map_flatMap]
 simp only [← lsT_P]
 rfl
theorem beh_P (x : RV) : (rt_beh (x.l 8) (x.l 7) (x.l 6) (x.l 14)).flatMap lsT = ((ptL.drop 4).flatMap (fun p => lsP p (x.l p.2.1))).map pcT := by
 rw [List.map_flatMap]
 simp only [← lsT_P]
 rfl
theorem flat_len (ls : List (ByteArray × List Int)) : (ls.flatMap lsT).length ≤ ls.length := by
 induction ls with
 | nil => exact Nat.le_refl _
 | cons p ls ih =>
  have := lsT_len p
  rw [List.flatMap_cons, List.length_append, List.length_cons]
  omega
theorem Text_ok {x : RV} (h : okV x = true) (hr : RowV x) (hz : Sz x) (hP : ∀ q ∈ (P3 x).map pcT, q.length ≤ 1000000 ∧ Bytes q) : TextV x = some (strOfNums (jn [59] ((P3 x).map pcT)), 0) := by
 have R := Rt.of h
 have hC := Check_eq (x.n 0) (x.n 1) (x.n 2) x.u x.t x.z (x.l 6) (x.l 7) (x.l 8) x.d (x.l 10) (x.l 11) (x.l 12) (x.l 13) (x.l 14) (x.n 15) hr
 have h' : okR (x.n 0) (x.n 1) (x.n 2) x.u x.t x.z (x.l 6) (x.l 7) (x.l 8) x.d (x.l 10) (x.l 11) (x.l 12) (x.l 13) (x.l 14) (x.n 15) = true := h
 rw [if_pos h'] at hC
 obtain ⟨f1, f2⟩ := R.f
 obtain ⟨i1, i2⟩ := R.i
 obtain ⟨c1, c2⟩ := R.c
 have e0 : wrap64 (x.n 0 - 1) = x.n 0 - 1 := wrap64_id (by omega) (by omega)
 have hfl : FRs.length = 7 := rfl
 have hfs : ∀ i : Int, 0 ≤ i → i ≤ 6 → (rdOf ByteArray.empty FRs i).size ≤ 20 := by
  intro i h0 h1
  have hi : i = 0 ∨ i = 1 ∨ i = 2 ∨ i = 3 ∨ i = 4 ∨ i = 5 ∨ i = 6 := by omega
  rcases hi with h | h | h | h | h | h | h <;> (subst h; decide)
 have hf := hfs (x.n 0 - 1) (by omega) (by omega)
 have hsb : ∀ p ∈ rt_bef (x.l 13) (x.l 12) (x.l 11) (x.l 10), p.1.size ≤ 100 ∧ Sml p.2 := by
  intro p hp
  simp only [rt_bef, List.mem_cons, List.not_mem_nil, or_false] at hp
  rcases hp with e | e | e | e <;> subst e
  ·exact ⟨(by dsimp only; decide), sml_of R hz (p := ptL[0]) (List.getElem_mem (by decide))⟩
  ·exact ⟨(by dsimp only; decide), sml_of R hz (p := ptL[1]) (List.getElem_mem (by decide))⟩
  ·exact ⟨(by dsimp only; decide), sml_of R hz (p := ptL[2]) (List.getElem_mem (by decide))⟩
  ·exact ⟨(by dsimp only; decide), sml_of R hz (p := ptL[3]) (List.getElem_mem (by decide))⟩
 have hsh : ∀ p ∈ rt_beh (x.l 8) (x.l 7) (x.l 6) (x.l 14), p.1.size ≤ 100 ∧ Sml p.2 := by
  intro p hp
  simp only [rt_beh, List.mem_cons, List.not_mem_nil, or_false] at hp
  rcases hp with e | e | e | e <;> subst e
  ·exact ⟨(by dsimp only; decide), sml_of R hz (p := ptL[4]) (List.getElem_mem (by decide))⟩
  ·exact ⟨(by dsimp only; decide), sml_of R hz (p := ptL[5]) (List.getElem_mem (by decide))⟩
  ·exact ⟨(by dsimp only; decide), sml_of R hz (p := ptL[6]) (List.getElem_mem (by decide))⟩
  ·exact ⟨(by dsimp only; decide), sml_of R hz (p := ptL[7]) (List.getElem_mem (by decide))⟩
 have s0 : [(⟨#[70, 82, 69, 81, 61]⟩ : ByteArray) ++ rdOf ByteArray.empty FRs (x.n 0 - 1)] = ([nF ++ 61 :: bytesOf (rdOf ByteArray.empty FRs (x.n 0 - 1))] : List (List Int)).map strOfNums := by
  rw [List.map_cons, List.map_nil]
  congr 1
  rw [show (⟨#[70, 82, 69, 81, 61]⟩ : ByteArray) = strOfNums (nF ++ [61]) from rfl]
  conv => lhs; rw [← strOf_bytes (rdOf ByteArray.empty FRs (x.n 0 - 1)), strOf_append]
  rfl
 have g1 := if_len (c := x.n 1 > 1) (nI ++ 61 :: txt (x.n 1) 1)
 have g2 := if_len (c := x.n 2 > 0) (nC ++ 61 :: txt (x.n 2) 1)
 have g3 := if_len (c := x.u = true) (nU ++ 61 :: tmT x.t x.z)
 have g4 := flat_len (rt_bef (x.l 13) (x.l 12) (x.l 11) (x.l 10))
 have g5 := if_len' (c := x.d = []) (nD ++ 61 :: jn [44] (x.d.map txD))
 have g6 := flat_len (rt_beh (x.l 8) (x.l 7) (x.l 6) (x.l 14))
 have g7 := if_len' (c := x.n 15 = 1) (nW ++ 61 :: wdT (x.n 15))
 have l4 : (rt_bef (x.l 13) (x.l 12) (x.l 11) (x.l 10)).length = 4 := rfl
 have l6 : (rt_beh (x.l 8) (x.l 7) (x.l 6) (x.l 14)).length = 4 := rfl
 have hd1 := R.d
 have hw := words_L0 x.d (fun y hy => ⟨(hd1 y hy).1, by have := (hd1 y hy).2; omega⟩) (by have := hz.2; omega) _ 0 [] rfl (by omega) (by omega) (by simp)
 rw [show x.d.drop (0 : Int).toNat = x.d from rfl, List.nil_append] at hw
 unfold TextV
 rw [recur_Text.F_eq, hC, bind_some_, if_pos rfl]
 show (if 0 ≤ wrap64 (x.n 0 - 1) then (if wrap64 (x.n 0 - 1) < (FRs.length : Int) then (if 5 + (rdOf ByteArray.empty FRs (wrap64 (x.n 0 - 1))).size ≤ 9223372036854775807 then rt_go.F (x.n 1) (x.n 2) x.u x.t x.z (x.l 6) (x.l 7) (x.l 8) x.d (x.l 10) (x.l 11) (x.l 12) (x.l 13) (x.l 14) (x.n 15) [(⟨#[70, 82, 69, 81, 61]⟩ : ByteArray) ++ (rdOf ByteArray.empty FRs (wrap64 (x.n 0 - 1)))] else none) else none) else none) = _
 rw [e0, if_pos (by omega), if_pos (by omega), if_pos (by omega), rt_go.F_eq, s0, show (⟨#[73, 78, 84, 69, 82, 86, 65, 76, 61]⟩ : ByteArray) = strOfNums (nI ++ [61]) from rfl, show (⟨#[67, 79, 85, 78, 84, 61]⟩ : ByteArray) = strOfNums (nC ++ [61]) from rfl]
 rw [num_step nI (by decide) (by omega) (by omega) (by simp), bind_some_]
 rw [num_step nC (by decide) (by omega) (by omega) (by simp only [List.length_append, List.length_singleton]; omega), bind_some_]
 rw [until_step (fun e => (R.u e).2) (by simp only [List.length_append, List.length_singleton]; omega), bind_some_]
 rw [lists_step hsb (by omega) (by simp only [List.length_append, List.length_singleton]; omega), bind_some_, hw, bind_some_]
 rw [byday_step R.d (by have := hz.2; omega) (by simp only [List.length_append, List.length_singleton]; omega), bind_some_]
 rw [lists_step hsh (by omega) (by simp only [List.length_append, List.length_singleton]; omega), bind_some_]
 rw [wkst_step R.w (by simp only [List.length_append, List.length_singleton]; omega), bind_some_]
 have eP : (P3 x).map pcT = [nF ++ 61 :: bytesOf (rdOf ByteArray.empty FRs (x.n 0 - 1))] ++ (if x.n 1 > 1 then [nI ++ 61 :: txt (x.n 1) 1] else []) ++ (if x.n 2 > 0 then [nC ++ 61 :: txt (x.n 2) 1] else []) ++ (if x.u = true then [nU ++ 61 :: tmT x.t x.z] else []) ++ (rt_bef (x.l 13) (x.l 12) (x.l 11) (x.l 10)).flatMap lsT ++ (if x.d = [] then [] else [nD ++ 61 :: jn [44] (x.d.map txD)]) ++ (rt_beh (x.l 8) (x.l 7) (x.l 6) (x.l 14)).flatMap lsT ++ (if x.n 15 = 1 then [] else [nW ++ 61 :: wdT (x.n 15)]) := by
  rw [bef_P, beh_P]
  unfold P3
  simp only [List.map_append, if_map, if_map', List.append_assoc]
  rfl
 rw [← eP]
 have hlen : ((P3 x).map pcT).length ≤ 100000 := by
  rw [eP]
  simp only [List.length_append, List.length_singleton]
  omega
 have := join_any 59 ((P3 x).map pcT) hlen hP
 rw [show (⟨#[59]⟩ : ByteArray) = ⟨#[(59 : UInt8)]⟩ from rfl, this]
 rfl
end Go.Proofs.YtjanombhdnoemaaGreatDoor.Base
