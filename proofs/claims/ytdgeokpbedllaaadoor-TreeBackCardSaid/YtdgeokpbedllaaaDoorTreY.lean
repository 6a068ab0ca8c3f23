-- A text of the kit's tools for this claim, its remarks left out.
import Derived.Test.YtdgeokpbedllaaaDoorTrLC
import Derived.Test.YtdgeokpbedllaaaDoorTreD
namespace Go.Proofs.YtdgeokpbedllaaaDoor.Base
open Go.RowKit Go.Proofs.YtdgeokpbedllaaaDoor.PTre Go.Proofs.YtdgeokpbedllaaaDoorW.PrintWords Go.Proofs.YtdgeokpbedllaaaDoorW.PrintLast Go.Proofs.YtdgeokpbedllaaaDoorW.PrintMore
set_option linter.unusedVariables false
set_option linter.unusedSimpArgs false
theorem jn_all {p : Int → Bool} {sep : List Int} (hs : sep.all p = true) : ∀ l : List (List Int), (∀ x ∈ l, x.all p = true) → (jn sep l).all p = true
 | [], _ => rfl
 | [x], h => h x (List.mem_cons_self ..)
 | x :: y :: t, h => by
  rw [jn, List.all_append, List.all_append, h x (List.mem_cons_self ..), hs, jn_all hs (y :: t) (fun z hz => h z (List.mem_cons_of_mem _ hz))]
  rfl
theorem chn_clr {l : List Int} (h : l.all chn = true) : l.all clr = true := by
 rw [List.all_eq_true] at h ⊢
 intro c hc
 have := (chn_iff c).1 (h c hc)
 exact (clr_iff c).2 (by omega)
theorem nmS_clr {l : List Int} (h : nmS l = true) : l.all clr = true := chn_clr (nmS_iff.1 h).1
theorem qv_clr {v : List Int} (h : v.all clr = true) : (qv v).all clr = true := by
 unfold qv
 split
 ·exact h
 ·rw [List.all_cons, List.all_append, h]; rfl
theorem parT_clr {p : S70} (h : prS p = true) : (parT p).all clr = true := by
 obtain ⟨h1, h2, h3⟩ := prS_iff.1 h
 have h4 : (jn [44] (p.f1.map fun x => qv (bytesOf x))).all clr = true := jn_all (by decide) _ (fun x hx => by
  obtain ⟨y, hy, rfl⟩ := List.mem_map.1 hx
  exact qv_clr (vlS_iff.1 (h3 y hy)).1)
 unfold parT
 rw [List.all_cons, List.all_append, List.all_cons, nmS_clr h1, h4]
 rfl
theorem parsT_clr : ∀ {ps : List S70}, (∀ p ∈ ps, prS p = true) → (parsT ps).all clr = true
 | [], _ => rfl
 | p :: ps, h => by
  rw [parsT, List.all_append, parT_clr (h p (List.mem_cons_self ..)), parsT_clr (fun q hq => h q (List.mem_cons_of_mem _ hq))]
  rfl
theorem txt_clr {n : ByteArray} {ps : List S70} {v : ByteArray} (h : lnS n ps v = true) : (txtS n ps v).all clr = true := by
 obtain ⟨h1, h2, h3⟩ := lnS_iff.1 h
 unfold txtS
 rw [List.all_append, List.all_append, List.all_cons, nmS_clr h1, parsT_clr h3, h2]
 rfl
theorem clr_Cln {l : List Int} (h : l.all clr = true) : Cln l := by
 rw [List.all_eq_true] at h
 exact ⟨fun h' => by have := (clr_iff 10).1 (h 10 h'); omega, fun h' => by have := (clr_iff 13).1 (h 13 h'); omega⟩
theorem txt_lin {n : ByteArray} {ps : List S70} {v : ByteArray} (h : lnS n ps v = true) : Lin (txtS n ps v) := by
 obtain ⟨h1, h2, h3⟩ := lnS_iff.1 h
 obtain ⟨g1, g2, g3⟩ := nmS_iff.1 h1
 refine ⟨clr_Cln (txt_clr h), ?_, ?_⟩
 ·unfold txtS
  intro e
  have := congrArg List.length e
  rw [List.length_append] at this
  simp at this
 ·unfold txtS
  cases hb : bytesOf n with
  | nil => rw [hb] at g2; simp at g2
  | cons c t =>
   rw [hb, List.all_cons, Bool.and_eq_true] at g1
   have := (chn_iff c).1 g1.1
   rw [List.cons_append, List.head?_cons]
   unfold blk
   simp only [Option.some.injEq]
   omega
def qsum : List ByteArray → Nat
 | [] => 0
 | x :: t => (x.size + 3) + qsum t
def psum : List S70 → Nat
 | [] => 0
 | p :: t => (p.f0.size + 2 + qsum p.f1) + psum t
theorem jn_qsum : ∀ vs : List ByteArray, (jn [44] (vs.map fun x => qv (bytesOf x))).length ≤ qsum vs
 | [] => Nat.le_refl _
 | [x] => by
  have h1 := qv_len (bytesOf x); have h2 := bytesOf_length x
  simp only [List.map_cons, List.map_nil, jn, qsum]
  omega
 | x :: y :: t => by
  have h1 := qv_len (bytesOf x); have h2 := bytesOf_length x
  have ih := jn_qsum (y :: t)
  simp only [List.map_cons] at ih ⊢
  rw [jn, qsum, List.length_append, List.length_append, List.length_singleton]
  omega
theorem parsT_psum : ∀ ps : List S70, (parsT ps).length ≤ psum ps
 | [] => Nat.le_refl _
 | p :: ps => by
  have h1 := jn_qsum p.f1; have h2 := bytesOf_length p.f0
  have ih := parsT_psum ps
  rw [parsT, psum, List.length_append]
  unfold parT
  rw [List.length_cons, List.length_append, List.length_cons]
  omega
theorem txt_psum (n : ByteArray) (ps : List S70) (v : ByteArray) : (txtS n ps v).length ≤ n.size + psum ps + 1 + v.size := by
 have h1 := parsT_psum ps; have h2 := bytesOf_length n; have h3 := bytesOf_length v
 unfold txtS
 rw [List.length_append, List.length_append, List.length_cons]
 omega
end Go.Proofs.YtdgeokpbedllaaaDoor.Base
namespace Go.Proofs.YtdgeokpbedllaaaDoor.Base
open Go.RowKit Go.Proofs.YtdgeokpbedllaaaDoor.PTre Go.Proofs.YtdgeokpbedllaaaDoorW.PrintWords Go.Proofs.YtdgeokpbedllaaaDoorW.PrintLast Go.Proofs.YtdgeokpbedllaaaDoorW.PrintMore
set_option linter.unusedVariables false
set_option linter.unusedSimpArgs false
theorem join_any (sep : ByteArray) (xs : List ByteArray) (hl : xs.length ≤ 2000000) (h : (jn (bytesOf sep) (xs.map bytesOf)).length ≤ 1000000000000) : strings_Join.f xs sep = some (strOfNums (jn (bytesOf sep) (xs.map bytesOf))) := by
 have e : bytesOf (⟨(Lib.join (xs.map (·.data.toList)) sep.data.toList).toArray⟩ : ByteArray) = jn (bytesOf sep) (xs.map bytesOf) := bytes_join sep xs
 have hlen := bytes_length_mk (Lib.join (xs.map (·.data.toList)) sep.data.toList)
 unfold strings_Join.f
 rw [if_pos ⟨by omega, by rw [← hlen, e]; omega⟩, ← e, strOf_bytes]
theorem qsum_len : ∀ vs : List ByteArray, 3 * vs.length ≤ qsum vs
 | [] => Nat.le_refl _
 | x :: t => by have := qsum_len t; rw [List.length_cons, qsum]; omega
theorem qsum_mem {x : ByteArray} : ∀ {vs : List ByteArray}, x ∈ vs → x.size ≤ qsum vs
 | y :: t, h => by
  rw [qsum]
  rcases List.mem_cons.1 h with rfl | h
  ·omega
  ·have := qsum_mem h; omega
theorem psum_len : ∀ ps : List S70, 2 * ps.length ≤ psum ps
 | [] => Nat.le_refl _
 | x :: t => by have := psum_len t; rw [List.length_cons, psum]; omega
theorem psum_mem {p : S70} : ∀ {ps : List S70}, p ∈ ps → p.f0.size + qsum p.f1 ≤ psum ps
 | y :: t, h => by
  rw [psum]
  rcases List.mem_cons.1 h with rfl | h
  ·omega
  ·have := psum_mem h; omega
theorem Text_L1B (n : ByteArray) (ps P : List S70) (v p0 : ByteArray) (x5 : ByteArray) (x20 x21 : Int) (vs p1 : List ByteArray) (hv : ∀ x ∈ vs, x.size ≤ 1000000) (hl : vs.length ≤ 1000000) :
  ∀ (d : Nat) (j : Int) (acc : List ByteArray), d = vs.length - j.toNat → 0 ≤ j → j ≤ (vs.length : Int) → acc.length ≤ j.toNat →
  line_Text.L1 x5 acc P x20 x21 vs (vs.length : Int) j n ps v p0 p1 = line_Text.L1 x5 (acc ++ (vs.drop j.toNat).map fun x => strOfNums (qv (bytesOf x))) P x20 x21 vs (vs.length : Int) (vs.length : Int) n ps v p0 p1 := by
 intro d
 induction d with
 | zero =>
  intro j acc hd h0 h1 ha
  have : j = (vs.length : Int) := by omega
  subst this
  rw [drop_nil_ (by omega), List.map_nil, List.append_nil]
 | succ d ih =>
  intro j acc hd h0 h1 ha
  have hlt : j < (vs.length : Int) := by omega
  have hx := hv _ (rdOf_mem ByteArray.empty h0 hlt)
  rw [drop_cons_ ByteArray.empty h0 hlt, List.map_cons]
  generalize hX : rdOf ByteArray.empty vs j = x at hx ⊢
  have hz := size_len x
  have e3 : bytesOf (⟨#[58, 59, 44]⟩ : ByteArray) = st3 := rfl
  have hps := congrArg List.length (pre_suf st3 (bytesOf x))
  rw [List.length_append] at hps
  rw [line_Text.L1_eq, hX, if_pos hlt, if_pos h0, if_pos hlt, until_eq x _ (by omega), bind_some_, e3, wrap64_id (n := j + 1) (by omega) (by omega)]
  have hnext := fun q => ih (j + 1) (acc ++ [q]) (by omega) (by omega) (by omega) (by rw [List.length_append, List.length_singleton]; omega)
  by_cases hs : suf st3 (bytesOf x) = []
  ·have hq : strOfNums (qv (bytesOf x)) = x := by
    unfold qv
    rw [if_pos hs, strOf_bytes]
   rw [hs, List.length_nil] at hps
   rw [if_neg (by omega), if_pos (by omega), hnext, hq, List.append_assoc]
   rfl
  ·have hsp : 0 < (suf st3 (bytesOf x)).length := List.length_pos_iff.2 hs
   have e34 : (⟨#[34]⟩ : ByteArray) = strOfNums [34] := rfl
   have hq : ((⟨#[34]⟩ : ByteArray) ++ x) ++ (⟨#[34]⟩ : ByteArray) = strOfNums (qv (bytesOf x)) := by
    unfold qv
    rw [if_neg hs, e34]
    conv => lhs; rw [← strOf_bytes x]
    rw [strOf_append, strOf_append]
    rfl
   have hsz : ((⟨#[34]⟩ : ByteArray) ++ x).size = 1 + x.size := by rw [ByteArray.size_append]; rfl
   rw [if_pos (by omega), if_pos (by omega), if_pos (by omega), if_pos (by omega), hq, hnext, List.append_assoc]
   rfl
theorem Text_L0B (n : ByteArray) (ps : List S70) (v : ByteArray) (hv : v.size ≤ 1000000) (hps : ps.length ≤ 1000000) :
  ∀ (d : Nat) (j : Int) (A : List Int), d = ps.length - j.toNat → 0 ≤ j → j ≤ (ps.length : Int) → A.length + psum (ps.drop j.toNat) ≤ 1000000 →
  line_Text.L0 (strOfNums A) ps (ps.length : Int) j n ps v = some (strOfNums (A ++ (parsT (ps.drop j.toNat) ++ 58 :: bytesOf v)), 0) := by
 intro d
 induction d with
 | zero =>
  intro j A hd h0 h1 hA
  have e58 : (⟨#[58]⟩ : ByteArray) = strOfNums [58] := rfl
  have hz := size_len v
  rw [line_Text.L0_eq, if_neg (by omega), drop_nil_ (by omega), size_strOf, if_pos (by omega), ByteArray.size_append, size_strOf, show (⟨#[58]⟩ : ByteArray).size = 1 from rfl, if_pos (by omega), e58]
  conv => lhs; rw [← strOf_bytes v]
  rw [strOf_append, strOf_append]
  show some (strOfNums (A ++ [58] ++ bytesOf v), (0 : Int)) = some (strOfNums (A ++ 58 :: bytesOf v), 0)
  rw [List.append_assoc]
  rfl
 | succ d ih =>
  intro j A hd h0 h1 hA
  have hlt : j < (ps.length : Int) := by omega
  have e0 : rd_T70 ps j = rdOf z70 ps j := rfl
  rw [drop_cons_ z70 h0 hlt, psum] at hA
  rw [line_Text.L0_eq, if_pos hlt, if_pos h0, if_pos hlt, e0, drop_cons_ z70 h0 hlt]
  generalize rdOf z70 ps j = p at hA ⊢
  have l1 : 3 * p.f1.length ≤ qsum p.f1 := qsum_len p.f1
  have l2 : ∀ x ∈ p.f1, x.size ≤ 1000000 := fun x hx => by have := qsum_mem hx; omega
  have ht := Text_L1B n ps ps v p.f0 (strOfNums A) (ps.length : Int) j p.f1 p.f1 l2 (by omega) _ 0 [] rfl (by omega) (by omega) (by simp)
  rw [ht]
  show line_Text.L1 (strOfNums A) (([] : List ByteArray) ++ (p.f1.map fun x => strOfNums (qv (bytesOf x)))) ps (ps.length : Int) j p.f1 (p.f1.length : Int) (p.f1.length : Int) n ps v p.f0 p.f1 = _
  rw [List.nil_append]
  have hmm : (p.f1.map fun x => strOfNums (qv (bytesOf x))).map bytesOf = p.f1.map fun x => qv (bytesOf x) := by
   rw [List.map_map]
   apply List.map_congr_left
   intro x _
   exact bytes_strOf (qv_bytes (bytes_of x))
  have hjl := jn_qsum p.f1
  have hj := join_any (⟨#[44]⟩ : ByteArray) (p.f1.map fun x => strOfNums (qv (bytesOf x))) (by rw [List.length_map]; omega) (by
   rw [hmm, show bytesOf (⟨#[44]⟩ : ByteArray) = [44] from rfl]
   omega)
  rw [show bytesOf (⟨#[44]⟩ : ByteArray) = [44] from rfl] at hj
  rw [hmm] at hj
  have hz := size_len p.f0
  have e59 : (⟨#[59]⟩ : ByteArray) = strOfNums [59] := rfl
  have e61 : (⟨#[61]⟩ : ByteArray) = strOfNums [61] := rfl
  have s1 : ((⟨#[59]⟩ : ByteArray) ++ p.f0).size = 1 + p.f0.size := by rw [ByteArray.size_append]; rfl
  have s2 : (((⟨#[59]⟩ : ByteArray) ++ p.f0) ++ (⟨#[61]⟩ : ByteArray)).size = 1 + p.f0.size + 1 := by rw [ByteArray.size_append, s1]; rfl
  rw [line_Text.L1_eq, if_neg (by omega), if_pos (by omega), if_pos (by omega), hj, bind_some_, if_pos (by rw [s2, size_strOf]; omega), if_pos (by rw [ByteArray.size_append, s2, size_strOf, size_strOf]; omega), wrap64_id (n := j + 1) (by omega) (by omega)]
  have hx : strOfNums A ++ ((((⟨#[59]⟩ : ByteArray) ++ p.f0) ++ (⟨#[61]⟩ : ByteArray)) ++ strOfNums (jn [44] (p.f1.map fun x => qv (bytesOf x)))) = strOfNums (A ++ parT p) := by
   have e : strOfNums A ++ ((((⟨#[59]⟩ : ByteArray) ++ strOfNums (bytesOf p.f0)) ++ (⟨#[61]⟩ : ByteArray)) ++ strOfNums (jn [44] (p.f1.map fun x => qv (bytesOf x)))) = strOfNums (A ++ parT p) := by
    rw [e59, e61, strOf_append, strOf_append, strOf_append, strOf_append]
    congr 1
    unfold parT
    simp
   rw [strOf_bytes] at e
   exact e
  rw [hx, ih (j + 1) (A ++ parT p) (by omega) (by omega) (by omega) (by
   unfold parT
   rw [List.length_append, List.length_cons, List.length_append, List.length_cons]
   omega)]
  show _ = some (strOfNums (A ++ ((parT p ++ parsT (ps.drop (j + 1).toNat)) ++ 58 :: bytesOf v)), (0 : Int))
  rw [List.append_assoc, List.append_assoc]
def Sz (n : ByteArray) (ps : List S70) (v : ByteArray) : Prop := n.size + psum ps + 1 + v.size ≤ 100000
theorem Sz.fit {n : ByteArray} {ps : List S70} {v : ByteArray} (h : Sz n ps v) : n.size ≤ 100000 ∧ v.size ≤ 100000 ∧ ps.length ≤ 100000 ∧ ∀ p ∈ ps, FitP p := by
 have h1 := psum_len ps
 unfold Sz at h
 refine ⟨by omega, by omega, by omega, fun p hp => ?_⟩
 have h2 := psum_mem hp
 have h3 := qsum_len p.f1
 exact ⟨by omega, fun x hx => (by have := qsum_mem hx; omega), by omega⟩
theorem Text_eqB (n : ByteArray) (ps : List S70) (v : ByteArray) (h : Sz n ps v) : line_Text.F n ps v = some (if lnS n ps v = true then (strOfNums (txtS n ps v), 0) else ((⟨#[]⟩ : ByteArray), 18)) := by
 obtain ⟨h1, h2, h3, h4⟩ := h.fit
 have hz := bytesOf_length n
 unfold Sz at h
 rw [line_Text.F_eq, Check_eq n ps v (by omega) (by omega) h4 (by omega), bind_some_]
 by_cases hl : lnS n ps v = true
 ·rw [if_pos hl, if_pos rfl, if_pos hl]
  have := Text_L0B n ps v (by omega) (by omega) _ 0 (bytesOf n) rfl (by omega) (by omega) (by show (bytesOf n).length + psum ps ≤ 1000000; omega)
  rw [strOf_bytes] at this
  exact this
 ·rw [if_neg hl, if_neg (by decide), if_neg hl]
theorem light_qsum : ∀ vs : List ByteArray, (∀ x ∈ vs, x.size ≤ 200) → qsum vs ≤ vs.length * 203
 | [], _ => Nat.le_refl _
 | x :: t, h => by
  have := light_qsum t (fun y hy => h y (List.mem_cons_of_mem _ hy))
  have := h x (List.mem_cons_self ..)
  rw [qsum, List.length_cons]
  omega
theorem light_psum : ∀ ps : List S70, (∀ p ∈ ps, LightP p) → psum ps ≤ ps.length * 4262
 | [], _ => Nat.le_refl _
 | p :: t, h => by
  have := light_psum t (fun y hy => h y (List.mem_cons_of_mem _ hy))
  obtain ⟨h1, h2, h3⟩ := h p (List.mem_cons_self ..)
  have h4 := light_qsum p.f1 h3
  rw [psum, List.length_cons]
  omega
theorem light_Sz {n : ByteArray} {ps : List S70} {v : ByteArray} (h : Light n ps v) : Sz n ps v := by
 obtain ⟨h1, h2, h3, h4⟩ := h
 have := light_psum ps h4
 unfold Sz
 omega
end Go.Proofs.YtdgeokpbedllaaaDoor.Base
