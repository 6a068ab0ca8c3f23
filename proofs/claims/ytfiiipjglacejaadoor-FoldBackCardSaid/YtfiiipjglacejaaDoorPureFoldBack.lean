/- The law FoldBack over numbers and lists: for every list of texts the law's printed function answers true. -/
import Derived.Test.YtfiiipjglacejaaDoorFolD
import Derived.Test.YtfiiipjglacejaaDoorEFolx6
namespace Go.Proofs.YtfiiipjglacejaaDoor.Pure
open Go.RowKit Go.Proofs.YtfiiipjglacejaaDoor.PFol Go.Proofs.YtfiiipjglacejaaDoorW.PrintWords Go.Proofs.YtfiiipjglacejaaDoorW.PrintLast Go.Proofs.YtfiiipjglacejaaDoorW.PrintMore Go.Proofs.YtfiiipjglacejaaDoor.Base
set_option linter.unusedVariables false
set_option linter.unusedSimpArgs false

theorem foldAll_snoc (x : List Int) : ∀ ls : List (List Int), foldAll (ls ++ [x]) = foldAll ls ++ foldL (x.length + 1) x 75
  | [] => by simp [foldAll]
  | l :: ls => by
    show foldL _ l 75 ++ foldAll (ls ++ [x]) = (foldL _ l 75 ++ foldAll ls) ++ _
    rw [foldAll_snoc x ls, List.append_assoc]
theorem foldAll_bytes : ∀ {ls : List (List Int)}, (∀ l ∈ ls, Bytes l) → Bytes (foldAll ls)
  | [], _ => Bytes.nil
  | l :: ls, h => Bytes.app (foldL_bytes _ 75 (h l (List.mem_cons_self ..))) (foldAll_bytes (fun m hm => h m (List.mem_cons_of_mem _ hm)))
theorem foldAll_len : ∀ {ls : List (List Int)}, (∀ l ∈ ls, l.length ≤ 500) → (foldAll ls).length ≤ ls.length * 2002
  | [], _ => Nat.le_refl _
  | l :: ls, h => by
    have h1 := foldL_len (l.length + 1) l 75 (by omega)
    have h2 := h l (List.mem_cons_self ..)
    have h3 := foldAll_len (fun m hm => h m (List.mem_cons_of_mem _ hm))
    show (foldL _ l 75 ++ foldAll ls).length ≤ _
    rw [List.length_append, List.length_cons]
    omega
theorem take_snoc {α : Type} (d : α) {l : List α} {i : Int} (h0 : 0 ≤ i) (h1 : i < (l.length : Int)) : l.take (i + 1).toNat = l.take i.toNat ++ [rdOf d l i] := by
  have hl : i.toNat < l.length := by omega
  rw [show (i + 1).toNat = i.toNat + 1 by omega, List.take_add_one, List.getElem?_eq_getElem hl]
  unfold rdOf
  rw [List.getD_eq_getElem?_getD, List.getElem?_eq_getElem hl]
  rfl
/-- What the lines were found to be so far. -/
def Ok (x : ByteArray) : Prop := Cln (bytesOf x) ∧ bytesOf x ≠ [] ∧ x.size ≤ 500
theorem back_L1 (ls : List ByteArray) (hl : ls.length ≤ 20) (hok : ∀ x ∈ ls, Ok x) : ∀ (d : Nat) (i : Int), d = ls.length - i.toNat → 0 ≤ i → i ≤ (ls.length : Int) → (∀ x ∈ ls.take i.toNat, ¬ blk (bytesOf x).head?) →
    solsticelaw16_FoldBack.L1 ls (strOfNums (foldAll (ls.map bytesOf))) i = some true := by
  have hb : ∀ l ∈ ls.map bytesOf, Bytes l := by
    intro l h
    obtain ⟨x, _, rfl⟩ := List.mem_map.1 h
    exact bytes_of x
  have hle := foldAll_len (ls := ls.map bytesOf) (by
    intro l h
    obtain ⟨x, hx, rfl⟩ := List.mem_map.1 h
    rw [bytesOf_length]
    exact (hok x hx).2.2)
  rw [List.length_map] at hle
  have hm : ls.length * 2002 ≤ 20 * 2002 := Nat.mul_le_mul_right _ hl
  intro d
  induction d with
  | zero =>
    intro i hd h0 h1 hn
    rw [List.take_of_length_le (by omega)] at hn
    have hu := unf_all (ls.map bytesOf) (by
      intro l h
      obtain ⟨x, hx, rfl⟩ := List.mem_map.1 h
      obtain ⟨a, b, _⟩ := hok x hx
      exact ⟨a, b, hn x hx⟩)
    rw [solsticelaw16_FoldBack.L1_eq, if_neg (by omega), Unfold_eq _ (by rw [size_strOf]; omega), bind_some_, bytes_strOf (foldAll_bytes hb), hu]
    unfold encU
    dsimp only
    rw [if_pos rfl, map_strOf_bytes, keep_texts ls ls (by omega), bind_some_, if_pos (by simp), wakes16, bind_some_]
  | succ d ih =>
    intro i hd h0 h1 hn
    have hlt : i < (ls.length : Int) := by omega
    obtain ⟨a, b, c⟩ := hok _ (rdOf_mem ByteArray.empty h0 hlt)
    have hts := take_snoc ByteArray.empty h0 hlt
    generalize hX : rdOf ByteArray.empty ls i = x at *
    have hz := bytesOf_length x
    have hpos : 0 < (bytesOf x).length := List.length_pos_iff.2 b
    have hr := rest_cons (s := x) (i := 0) (by omega) (by omega)
    rw [rest_zero] at hr
    rw [solsticelaw16_FoldBack.L1_eq, if_pos hlt, if_pos h0, hX, if_pos (by omega), wakes16, bind_some_]
    by_cases c1 : bt x 0 = 32
    · rw [if_pos c1]
    · rw [if_neg c1]
      by_cases c2 : bt x 0 = 9
      · rw [if_pos c2]
      · rw [if_neg c2, wrap64_id (n := i + 1) (by omega) (by omega)]
        refine ih (i + 1) (by omega) (by omega) (by omega) ?_
        rw [hts]
        intro y hy
        rcases List.mem_append.1 hy with h | h
        · exact hn y h
        · rw [List.mem_singleton.1 h, hr, List.head?_cons]
          rintro (e | e)
          · exact c1 (Option.some.inj e)
          · exact c2 (Option.some.inj e)
theorem back_L0 (ls : List ByteArray) (hl : ls.length ≤ 20) : ∀ (d : Nat) (i : Int), d = ls.length - i.toNat → 0 ≤ i → i ≤ (ls.length : Int) → (∀ x ∈ ls.take i.toNat, Ok x) →
    solsticelaw16_FoldBack.L0 ls (strOfNums (foldAll ((ls.take i.toNat).map bytesOf))) i = some true := by
  intro d
  induction d with
  | zero =>
    intro i hd h0 h1 hok
    rw [List.take_of_length_le (by omega)] at hok ⊢
    rw [solsticelaw16_FoldBack.L0_eq, if_neg (by omega)]
    exact back_L1 ls hl hok _ 0 rfl (by omega) (by omega) (by simp)
  | succ d ih =>
    intro i hd h0 h1 hok
    have hlt : i < (ls.length : Int) := by omega
    have hts := take_snoc ByteArray.empty h0 hlt
    have stop : solsticelaw16_FoldBack.J1 ls (strOfNums (foldAll ((ls.take i.toNat).map bytesOf))) i true = some true := by rw [solsticelaw16_FoldBack.J1_eq, if_pos rfl]
    have hle := foldAll_len (ls := (ls.take i.toNat).map bytesOf) (by
      intro l h
      obtain ⟨x, hx, rfl⟩ := List.mem_map.1 h
      rw [bytesOf_length]
      exact (hok x hx).2.2)
    rw [List.length_map, List.length_take] at hle
    have hm : min i.toNat ls.length * 2002 ≤ 20 * 2002 := Nat.mul_le_mul_right _ (by omega)
    rw [solsticelaw16_FoldBack.L0_eq, if_pos hlt, if_pos h0, stop]
    generalize hX : rdOf ByteArray.empty ls i = x at *
    have hz := bytesOf_length x
    by_cases c1 : (x.size : Int) > 500
    · rw [if_pos c1]
    · rw [if_neg c1]
      by_cases c2 : x.size = 0
      · have hb : ((x.size : Int) == 0) = true := by rw [beq_iff_eq]; omega
        rw [hb, stop]
      · have hb : ((x.size : Int) == 0) = false := by rw [beq_eq_false_iff_ne]; omega
        rw [hb, solsticelaw16_FoldBack.J1_eq, if_neg (by simp), if_pos h0, if_pos hlt, hX, Line_eq x (by omega), bind_some_]
        by_cases hc : Cln (bytesOf x)
        · have e : (if Cln (bytesOf x) then (strOfNums (foldL ((bytesOf x).length + 1) (bytesOf x) 75), (0 : Int)) else ((⟨#[]⟩ : ByteArray), 18)) = (strOfNums (foldL ((bytesOf x).length + 1) (bytesOf x) 75), 0) := if_pos hc
          have hf := foldL_len ((bytesOf x).length + 1) (bytesOf x) 75 (by omega)
          rw [e]
          dsimp only
          rw [if_pos rfl, if_pos (by rw [size_strOf, size_strOf]; omega), wrap64_id (n := i + 1) (by omega) (by omega), strOf_append]
          have hi := ih (i + 1) (by omega) (by omega) (by omega) (by
            rw [hts]
            intro y hy
            rcases List.mem_append.1 hy with h | h
            · exact hok y h
            · rw [List.mem_singleton.1 h]
              refine ⟨hc, fun h' => ?_, by omega⟩
              rw [h', List.length_nil] at hz
              omega)
          rw [hts, List.map_append, List.map_cons, List.map_nil, foldAll_snoc] at hi
          exact hi
        · have e : (if Cln (bytesOf x) then (strOfNums (foldL ((bytesOf x).length + 1) (bytesOf x) 75), (0 : Int)) else ((⟨#[]⟩ : ByteArray), 18)) = ((⟨#[]⟩ : ByteArray), 18) := if_neg hc
          rw [e]
          dsimp only
          rw [if_neg (by decide), if_pos (by rw [ByteArray.toList_eq]), wakes16, bind_some_]
theorem FoldBack_F (ls : List ByteArray) : solsticelaw16_FoldBack.F ls = some true := by
  rw [solsticelaw16_FoldBack.F_eq]
  by_cases h : (ls.length : Int) > 20
  · rw [if_pos h]
  · rw [if_neg h]
    exact back_L0 ls (by omega) _ 0 rfl (by omega) (by omega) (by simp)
theorem FoldBack (ls : List ByteArray) : ∃ k, solsticelaw16_FoldBack.f k ls = some true := lim_some (FoldBack_F ls)
end Go.Proofs.YtfiiipjglacejaaDoor.Pure
