/- The law FieldsBack over texts: for every list of texts the law's printed function answers true. -/
import Derived.Test.YtmkknigneppneaaDoorFldA
import Derived.Test.YtmkknigneppneaaDoorFldHeavy
import Derived.Test.YtmkknigneppneaaDoorEFldx4
import Derived.Test.YtmkknigneppneaaDoorEFldx1
import Derived.Test.YtmkknigneppneaaDoorPFldx1
namespace Go.Proofs.YtmkknigneppneaaDoor.Pure
open Go.RowKit Go.Proofs.YtmkknigneppneaaDoor.PFld Go.Proofs.YtmkknigneppneaaDoor.FldR Go.Proofs.YtmkknigneppneaaDoorW.PrintWords Go.Proofs.YtmkknigneppneaaDoorW.PrintLast Go.Proofs.YtmkknigneppneaaDoorW.PrintMore Go.Proofs.YtmkknigneppneaaDoor.Base
set_option linter.unusedVariables false
set_option linter.unusedSimpArgs false
def anyIn (l t : List Int) : Bool := l.any fun c => decide (c ∈ t)
theorem anyIn_no {l t : List Int} (h : anyIn l t = false) {c : Int} (hc : c ∈ l) : c ∉ t := by
  intro ht
  have : anyIn l t = true := List.any_eq_true.2 ⟨c, hc, decide_eq_true ht⟩
  rw [h] at this
  cases this
theorem has_L0 (s t : ByteArray) (hs : s.size ≤ 1000000) : ∀ (k : Nat) (i : Int), i + k = (s.size : Int) → 0 ≤ i → fields_has.L0 s t (s.size : Int) i = some (anyIn (rest s i) (bytesOf t)) := by
  intro k
  induction k with
  | zero => intro i h1 h2; rw [fields_has.L0_eq, if_neg (by omega), rest_nil (by omega)]; rfl
  | succ k ih =>
    intro i h1 h2
    have hlt : i < (s.size : Int) := by omega
    have hr := bt_range s i
    have hm := index_mem t.data.toList (bt s i) hr.1 hr.2
    rw [fields_has.L0_eq, if_pos hlt, if_pos h2, if_pos hlt, rest_cons h2 hlt]
    unfold strings_IndexByte.f
    rw [bind_some_, wrap64_id (by omega) (by omega), ih (i + 1) (by omega) (by omega)]
    unfold anyIn
    rw [List.any_cons]
    by_cases h : bt s i ∈ bytesOf t
    · rw [if_pos (hm.2 h), decide_eq_true h]; rfl
    · rw [if_neg (fun h' => h (hm.1 h')), decide_eq_false h]; rfl
theorem has_eq (s t : ByteArray) (hs : s.size ≤ 1000000) : fields_has.F s t = some (anyIn (bytesOf s) (bytesOf t)) := by
  rw [fields_has.F_eq, has_L0 s t hs s.size 0 (by omega) (by omega), rest_zero]
def qtB (l : List Int) : Bool := l.isEmpty || anyIn l [32, 9, 13, 35]
theorem quotes_eq (s : ByteArray) (hs : s.size ≤ 1000000) : fields_quotes.F s = some (qtB (bytesOf s)) := by
  have e0 : ([] : List UInt8) = (⟨#[]⟩ : ByteArray).toList := by rw [ByteArray.toList_eq]
  rw [fields_quotes.F_eq]
  unfold qtB
  by_cases h : bytesOf s = []
  · rw [if_pos (by rw [e0, toList_iff]; exact bytes_inj (by rw [h]; rfl)), h]; rfl
  · have : (bytesOf s).isEmpty = false := by
      cases hh : bytesOf s with
      | nil => exact absurd hh h
      | cons _ _ => rfl
    rw [if_neg (fun h' => h (by rw [e0, toList_iff] at h'; rw [h']; rfl)), has_eq s _ hs, bind_some_, this]
    rfl
/-- A piece of a line. -/
def pc (l : List Int) : List Int := if qtB l = true then 34 :: (l ++ [34]) else l
theorem pc_len (l : List Int) : (pc l).length ≤ l.length + 2 := by unfold pc; split <;> simp
theorem pc_bytes {l : List Int} (h : Bytes l) : Bytes (pc l) := by
  unfold pc
  split
  · exact Bytes.cons (by omega) (by omega) (Bytes.app h (Bytes.cons (by omega) (by omega) Bytes.nil))
  · exact h
def okB (l : List Int) : Bool := !anyIn l [0, 10, 34]
theorem okB_no {l : List Int} (h : okB l = true) {c : Int} (hc : c ∈ l) : c ≠ 0 ∧ c ≠ 10 ∧ c ≠ 34 := by
  have h' : anyIn l [0, 10, 34] = false := by unfold okB at h; simpa using h
  have := anyIn_no h' hc
  simp at this
  omega
theorem pc_ln {l : List Int} (h : okB l = true) : Ln (pc l) := by
  have k : Ln l := fun x hx => ⟨(okB_no h hx).1, (okB_no h hx).2.1⟩
  unfold pc
  split
  · intro x hx
    rcases List.mem_cons.1 hx with rfl | hx
    · omega
    · rcases List.mem_append.1 hx with hx | hx
      · exact k x hx
      · rw [List.mem_singleton.1 hx]; omega
  · exact k
theorem pc_run (out : List ByteArray) {l : List Int} (hb : Bytes l) (h : okB l = true) : runO (pc l) (out, [], false, false) = some (out, l, true, false) := by
  unfold pc
  split
  · have h1 : stp (out, [], false, false) 34 = some (out, [], true, true) := by unfold stp; rw [if_pos rfl]; rfl
    have h2 : stp (out, l, true, true) 34 = some (out, l, true, false) := by unfold stp; rw [if_pos rfl]; rfl
    rw [runO, h1, bind_some_, runO_app, run_quoted _ _ _ _ (fun c hc => (okB_no h hc).2.2), bind_some_, List.nil_append, runO, h2]
    rfl
  · rename_i hq
    have hq' : qtB l = false := by simpa using hq
    unfold qtB at hq'
    rw [Bool.or_eq_false_iff] at hq'
    rw [run_word _ _ _ _ hb (fun c hc => by
      have h1 := anyIn_no hq'.2 hc
      have h2 := okB_no h hc
      simp at h1
      unfold Bl
      omega), hq'.1]
    rfl
theorem run_join : ∀ (ps : List (List Int)) (out : List ByteArray), ps ≠ [] → (∀ p ∈ ps, Bytes p ∧ okB p = true) → ∃ o f, runO (jn [32] (ps.map pc)) (out, [], false, false) = some (o, f, true, false) ∧ o ++ [strOfNums f] = out ++ ps.map strOfNums
  | [], _, h, _ => absurd rfl h
  | [p], out, _, h => ⟨out, p, pc_run out (h p (List.mem_cons_self ..)).1 (h p (List.mem_cons_self ..)).2, rfl⟩
  | p :: q :: ps, out, _, h => by
    obtain ⟨o, f, h1, h2⟩ := run_join (q :: ps) (out ++ [strOfNums p]) (by simp) (fun x hx => h x (List.mem_cons_of_mem _ hx))
    have hp := h p (List.mem_cons_self ..)
    refine ⟨o, f, ?_, by rw [h2, List.append_assoc]; rfl⟩
    show runO (pc p ++ ([32] ++ jn [32] ((q :: ps).map pc))) _ = _
    rw [runO_app, pc_run out hp.1 hp.2, bind_some_, runO_app, run_ends out p (by simp) (by intro c hc; rw [List.mem_singleton.1 hc]; exact Or.inl rfl), bind_some_, h1]
theorem jn_len : ∀ ps : List (List Int), ps ≠ [] → (jn [32] ps).length + 1 = (ps.map fun p => p.length + 1).sum
  | [], h => absurd rfl h
  | [p], _ => by simp [jn]
  | p :: q :: ps, _ => by
    have ih := jn_len (q :: ps) (by simp)
    rw [jn, List.length_append, List.length_append, List.length_singleton, List.map_cons, List.sum_cons]
    omega
def fin (acc : List ByteArray) (n : Int) : Option (ByteArray × Int) := if n - 1 > 600 then some ((⟨#[]⟩ : ByteArray), 2) else (strings_Join.f acc (⟨#[32]⟩ : ByteArray)).bind fun t => some (t, 0)
def tot (xs : List ByteArray) : Nat := ((xs.map fun x => pc (bytesOf x)).map fun p => p.length + 1).sum
theorem Join_L0 (xs : List ByteArray) (hl : xs.length ≤ 60) (hx : ∀ x ∈ xs, x.size ≤ 800) : ∀ (k : Nat) (i : Int) (acc : List ByteArray) (n : Int), i + k = (xs.length : Int) → 0 ≤ i → (acc.length : Int) ≤ i → 0 ≤ n → n ≤ 803 * i →
    fields_Join.L0 acc n xs (xs.length : Int) i = if (∀ x ∈ xs.drop i.toNat, okB (bytesOf x) = true) then fin (acc ++ (xs.drop i.toNat).map fun x => strOfNums (pc (bytesOf x))) (n + tot (xs.drop i.toNat)) else some ((⟨#[]⟩ : ByteArray), 6) := by
  intro k
  induction k with
  | zero =>
    intro i acc n h1 h2 h3 h4 h5
    rw [drop_nil_ (by omega), if_pos (fun x hx => by cases hx), fields_Join.L0_eq, if_neg (by omega), wrap64_id (by omega) (by omega), List.map_nil, List.append_nil]
    show _ = fin acc (n + 0)
    rw [Int.add_zero]
    rfl
  | succ k ih =>
    intro i acc n h1 h2 h3 h4 h5
    have hi : i < (xs.length : Int) := by omega
    have hm := hx _ (rdOf_mem ByteArray.empty h2 hi)
    rw [drop_cons_ ByteArray.empty h2 hi, fields_Join.L0_eq, if_pos hi, if_pos h2, if_pos hi, has_eq _ _ (by omega), bind_some_]
    generalize rdOf ByteArray.empty xs i = x at *
    have e034 : bytesOf (⟨#[0, 10, 34]⟩ : ByteArray) = [0, 10, 34] := rfl
    rw [e034]
    by_cases ho : anyIn (bytesOf x) [0, 10, 34] = true
    · rw [if_pos ho, if_neg]
      intro h
      have := h x (List.mem_cons_self ..)
      unfold okB at this
      rw [ho] at this
      cases this
    · have hok : okB (bytesOf x) = true := by unfold okB; simpa using ho
      have hz := size_len x
      rw [if_neg ho, quotes_eq x (by omega), bind_some_]
      have hpl := pc_len (bytesOf x)
      have go : ∀ y : ByteArray, y = strOfNums (pc (bytesOf x)) → fields_Join.L0 (acc ++ [y]) (wrap64 (n + wrap64 ((y.size : Int) + 1))) xs (xs.length : Int) (wrap64 (i + 1)) = if (∀ z ∈ x :: xs.drop (i + 1).toNat, okB (bytesOf z) = true) then fin (acc ++ (x :: xs.drop (i + 1).toNat).map fun x => strOfNums (pc (bytesOf x))) (n + tot (x :: xs.drop (i + 1).toNat)) else some ((⟨#[]⟩ : ByteArray), 6) := by
        intro y hy
        have hsz : (y.size : Int) = (pc (bytesOf x)).length := by rw [hy, size_strOf]
        rw [wrap64_id (n := (y.size : Int) + 1) (by omega) (by omega), wrap64_id (by omega) (by omega), wrap64_id (by omega) (by omega), ih (i + 1) _ _ (by omega) (by omega) (by rw [List.length_append, List.length_singleton]; omega) (by omega) (by omega), hsz, hy]
        have e1 : (∀ z ∈ x :: xs.drop (i + 1).toNat, okB (bytesOf z) = true) ↔ (∀ z ∈ xs.drop (i + 1).toNat, okB (bytesOf z) = true) :=
          ⟨fun h z hz => h z (List.mem_cons_of_mem _ hz), fun h z hz => by
            rcases List.mem_cons.1 hz with rfl | hz
            · exact hok
            · exact h z hz⟩
        have e2 : n + ((pc (bytesOf x)).length + 1 : Int) + (tot (xs.drop (i + 1).toNat) : Int) = n + (tot (x :: xs.drop (i + 1).toNat) : Int) := by
          unfold tot
          rw [List.map_cons, List.map_cons, List.sum_cons]
          omega
        rw [e2]
        simp only [e1, List.map_cons, List.append_assoc, List.singleton_append]
      have ha : acc.length < 8796093022208 := by omega
      have s1 : ((⟨#[34]⟩ : ByteArray)) = strOfNums [34] := rfl
      have s0 : x = strOfNums (bytesOf x) := (strOf_bytes x).symm
      by_cases hq : qtB (bytesOf x) = true
      · have hp : pc (bytesOf x) = 34 :: (bytesOf x ++ [34]) := by unfold pc; rw [if_pos hq]
        have e3 : ((⟨#[34]⟩ : ByteArray) ++ x) ++ (⟨#[34]⟩ : ByteArray) = strOfNums (pc (bytesOf x)) := by
          rw [hp]
          conv => lhs; rw [s0, s1, strOf_append, strOf_append]
          rfl
        have e4 : ((⟨#[34]⟩ : ByteArray) ++ x).size = 1 + x.size := by rw [ByteArray.size_append]; rfl
        rw [if_pos hq, if_pos (by omega), if_pos (by rw [e4]; omega), if_pos ha]
        exact go _ e3
      · have hp : pc (bytesOf x) = bytesOf x := by unfold pc; rw [if_neg hq]
        rw [if_neg hq, if_pos ha]
        exact go x (by rw [hp]; exact s0)
theorem join32 (xs : List (List Int)) (hl : xs.length ≤ 100) (h : ∀ x ∈ xs, x.length ≤ 1000) (hb : ∀ x ∈ xs, Bytes x) : strings_Join.f (xs.map strOfNums) (⟨#[32]⟩ : ByteArray) = some (strOfNums (jn [32] xs)) := by
  have em : (xs.map strOfNums).map bytesOf = xs := by
    rw [List.map_map]
    have : ∀ x ∈ xs, (bytesOf ∘ strOfNums) x = x := fun x hx => bytes_strOf (hb x hx)
    rw [List.map_congr_left this, List.map_id']
  have e : bytesOf (⟨(Lib.join ((xs.map strOfNums).map (·.data.toList)) (⟨#[32]⟩ : ByteArray).data.toList).toArray⟩ : ByteArray) = jn [32] xs := by
    have := bytes_join (⟨#[32]⟩ : ByteArray) (xs.map strOfNums)
    rw [em] at this
    exact this
  have hlen := bytes_length_mk (Lib.join ((xs.map strOfNums).map (·.data.toList)) (⟨#[32]⟩ : ByteArray).data.toList)
  have hj := jn_length [32] 1000 xs h
  rw [List.length_singleton] at hj
  have hm : xs.length * (1000 + 1) ≤ 100 * 1001 := Nat.mul_le_mul_right _ hl
  unfold strings_Join.f
  rw [if_pos ⟨by rw [List.length_map]; omega, by rw [← hlen, e]; omega⟩, ← e, strOf_bytes]
theorem FieldsBack (l : List ByteArray) : ∃ k, solsticelaw05_FieldsBack.f k l = some true := by
  suffices h : solsticelaw05_FieldsBack.F l = some true from lim_some h
  obtain ⟨b, hb, hs⟩ := heavy_F l
  have e0 : (⟨#[]⟩ : ByteArray).toList = ([] : List UInt8) := by rw [ByteArray.toList_eq]
  rw [solsticelaw05_FieldsBack.F_eq, hb, bind_some_]
  cases b with
  | true => rw [if_pos rfl]
  | false =>
    obtain ⟨h1, h2⟩ := hs rfl
    have hJ := Join_L0 l h1 h2 l.length 0 [] 0 (by omega) (by omega) (by simp) (by omega) (by omega)
    rw [show (0 : Int).toNat = 0 from rfl, List.drop_zero, List.nil_append, Int.zero_add] at hJ
    rw [if_neg (by simp), fields_Join.F_eq, hJ]
    by_cases hg : ∀ x ∈ l, okB (bytesOf x) = true
    · rw [if_pos hg]
      unfold fin
      by_cases hn : (tot l : Int) - 1 > 600
      · rw [if_pos hn, bind_some_]
        dsimp only
        rw [if_neg (by omega), if_pos e0, wakes05_, bind_some_]
      · have hpl : ∀ p ∈ l.map fun x => pc (bytesOf x), p.length ≤ 1000 := by
          intro p hp
          obtain ⟨x, hx, rfl⟩ := List.mem_map.1 hp
          have := pc_len (bytesOf x)
          have := h2 x hx
          rw [bytesOf_length] at *
          omega
        have hpb : ∀ p ∈ l.map fun x => pc (bytesOf x), Bytes p := by
          intro p hp
          obtain ⟨x, hx, rfl⟩ := List.mem_map.1 hp
          exact pc_bytes (bytes_of x)
        have ej := join32 (l.map fun x => pc (bytesOf x)) (by rw [List.length_map]; omega) hpl hpb
        rw [List.map_map] at ej
        have ej' : strings_Join.f (l.map fun x => strOfNums (pc (bytesOf x))) (⟨#[32]⟩ : ByteArray) = some (strOfNums (jn [32] (l.map fun x => pc (bytesOf x)))) := ej
        rw [if_neg hn, ej', bind_some_, bind_some_]
        dsimp only
        rw [if_pos rfl]
        have hbj : Bytes (jn [32] (l.map fun x => pc (bytesOf x))) := jn_bytes (Bytes.cons (by omega) (by omega) Bytes.nil) _ hpb
        have hln : ∀ ps : List (List Int), (∀ p ∈ ps, Ln p) → Ln (jn [32] ps) := by
          intro ps
          induction ps with
          | nil => intro _ x hx; cases hx
          | cons p ps ih =>
            intro h
            cases ps with
            | nil => exact h p (List.mem_cons_self ..)
            | cons q ps =>
              intro x hx
              rw [jn] at hx
              rcases List.mem_append.1 hx with hx | hx
              · exact h p (List.mem_cons_self ..) x hx
              · rcases List.mem_append.1 hx with hx | hx
                · rw [List.mem_singleton.1 hx]; omega
                · exact ih (fun z hz => h z (List.mem_cons_of_mem _ hz)) x hx
        have hL : Ln (jn [32] (l.map fun x => pc (bytesOf x))) := hln _ (by
          intro p hp
          obtain ⟨x, hx, rfl⟩ := List.mem_map.1 hp
          exact pc_ln (hg x hx))
        have key : ∃ y : St, runL (jn [32] (l.map fun x => pc (bytesOf x))) FldR.init = y ∧ y.2.2.2 = false ∧ (endS y).1 = l ∧ (jn [32] (l.map fun x => pc (bytesOf x))).length ≤ 600 := by
          cases l with
          | nil => exact ⟨_, rfl, rfl, rfl, by simp [jn]⟩
          | cons x l =>
            obtain ⟨o, f, r1, r2⟩ := run_join ((x :: l).map bytesOf) [] (by simp) (by
              intro p hp
              obtain ⟨z, hz, rfl⟩ := List.mem_map.1 hp
              exact ⟨bytes_of z, hg z hz⟩)
            rw [List.map_map] at r1 r2
            have r3 := runL_app (b := []) r1
            rw [List.append_nil] at r3
            refine ⟨_, r3, rfl, ?_, ?_⟩
            · show (if true = true then o ++ [strOfNums f] else o) = x :: l
              rw [if_pos rfl, r2, List.nil_append]
              have : ∀ z ∈ x :: l, (strOfNums ∘ bytesOf) z = z := fun z _ => strOf_bytes z
              rw [List.map_congr_left this, List.map_id']
            · have := jn_len ((x :: l).map fun x => pc (bytesOf x)) (by simp)
              have e : (((x :: l).map fun x => pc (bytesOf x)).map fun p => p.length + 1).sum = tot (x :: l) := rfl
              rw [e] at this
              omega
        obtain ⟨y, k1, k2, k3, k4⟩ := key
        have hS := Split_eq hbj hL k4
        rw [k1, if_neg (by rw [k2]; simp), k3] at hS
        rw [hS, bind_some_]
        dsimp only
        rw [if_pos rfl, texts_F l l (by omega), bind_some_, decide_eq_true rfl, if_pos rfl, wakes05_, bind_some_]
    · rw [if_neg hg, bind_some_]
      dsimp only
      rw [if_neg (by omega), if_pos e0, wakes05_, bind_some_]
end Go.Proofs.YtmkknigneppneaaDoor.Pure
