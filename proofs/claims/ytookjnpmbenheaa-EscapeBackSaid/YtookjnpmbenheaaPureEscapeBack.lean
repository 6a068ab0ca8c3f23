/- The law EscapeBack over numbers and lists: for every text (of at most 140737488351232 bytes, as every string of the model is) and every list of texts the law's printed function answers true. -/
import Derived.Test.YtookjnpmbenheaaEscB
import Derived.Test.YtookjnpmbenheaaEscTexts
import Derived.Test.YtookjnpmbenheaaEscHeavy
import Derived.Test.YtookjnpmbenheaaEEscx4
namespace Go.Proofs.Ytookjnpmbenheaa.Pure
open Go.RowKit Go.Proofs.Ytookjnpmbenheaa.PEsc Go.Proofs.YtookjnpmbenheaaW.PrintWords Go.Proofs.YtookjnpmbenheaaW.PrintLast Go.Proofs.Ytookjnpmbenheaa.Base

theorem back_wakes : solsticelaw17_wakes.F = some true := by
  have h : solsticelaw17_wakes.f 40 = some true := by decide +kernel
  exact lim_of solsticelaw17_wakes.isF.mono h
theorem back_J2 (l : List ByteArray) (hl : l.length ≤ 60) (hs : ∀ x ∈ l, x.size ≤ 800) : solsticelaw17_EscapeBack.J2 l = some true := by
  rw [solsticelaw17_EscapeBack.J2_eq, list_F l hl hs]
  cases hp : puts (l.map bytesOf) with
  | none =>
    rw [listed, bind_some_, if_neg (by decide), if_pos (by decide +kernel), back_wakes]
    rfl
  | some r =>
    rw [listed]
    by_cases h0 : (l.length : Int) = 0
    · rw [if_pos h0, bind_some_, if_neg (by decide), if_pos (by decide +kernel), back_wakes]
      rfl
    · have hne : l.map bytesOf ≠ [] := fun h => h0 (by have := congrArg List.length h; simp at this; simp [this])
      obtain ⟨h1, h2⟩ := puts_all hp
      have hb := h2 (fun x hx => by
        obtain ⟨y, hy, rfl⟩ := List.mem_map.1 hx
        exact ⟨bytes_of y, by rw [bytesOf_length]; exact hs y hy⟩)
      rw [List.length_map] at h1
      obtain ⟨t, ht, htb, hts⟩ := join_F (by omega) hb
      obtain ⟨c1, c2⟩ := cuts_join hp hne
      rw [if_neg h0, ht]
      rw [bind_some_, bind_some_, if_pos rfl, unlist_F t (by omega), htb, c1, c2, tolds]
      repeat rw [bind_some_]
      have he : (l.map bytesOf).map strOfNums = l := by
        rw [List.map_map]
        conv => rhs; rw [← List.map_id l]
        exact List.map_congr_left fun y _ => strOf_bytes y
      rw [if_pos rfl, List.nil_append, he, texts_F l l (by omega)]
      rw [bind_some_, if_pos (decide_eq_true rfl), back_wakes]
      rfl
theorem back_J1 (s : ByteArray) (hs : s.size ≤ 1000) (l : List ByteArray) (hl : l.length ≤ 60) (hl2 : ∀ x ∈ l, x.size ≤ 800) : solsticelaw17_EscapeBack.J1 s l = some true := by
  rw [solsticelaw17_EscapeBack.J1_eq, get_F s (by omega)]
  repeat rw [bind_some_]
  cases hg : get (bytesOf s) with
  | none =>
    rw [told_none, if_neg (by decide)]
    exact back_J2 l hl hl2
  | some a =>
    obtain ⟨h1, h2, q, hq⟩ := get_both hg
    have ha := h1 (bytes_of s)
    rw [bytesOf_length] at h2
    have hql := put_length hq
    rw [told_some, if_pos rfl, List.nil_append, put_F _ (by rw [size_strOf]; omega), bytes_strOf ha, hq, told_some]
    rw [bind_some_, List.nil_append, get_F _ (by rw [size_strOf]; omega), bytes_strOf (put_bytes ha hq), get_put hq, told_some]
    rw [bind_some_, if_pos rfl, if_pos rfl, List.nil_append, if_pos rfl]
    exact back_J2 l hl hl2
theorem EscapeBack (s : ByteArray) (l : List ByteArray) (_ : s.size ≤ 140737488351232) : ∃ k, solsticelaw17_EscapeBack.f k s l = some true := by
  suffices h : solsticelaw17_EscapeBack.F s l = some true from lim_some h
  rw [solsticelaw17_EscapeBack.F_eq]
  by_cases h1 : (s.size : Int) > 1000
  · rw [if_pos h1, solsticelaw17_EscapeBack.J0_eq, if_pos rfl]
  · obtain ⟨b, hb, hh⟩ := heavy_F l
    rw [if_neg h1, hb, bind_some_, solsticelaw17_EscapeBack.J0_eq]
    cases b with
    | true => rw [if_pos rfl]
    | false =>
      obtain ⟨hl, hl2⟩ := hh rfl
      rw [if_neg (by decide), put_F s (by omega)]
      repeat rw [bind_some_]
      cases hp : put (bytesOf s) with
      | none =>
        rw [told_none, if_neg (by decide)]
        exact back_J1 s (by omega) l hl hl2
      | some p =>
        have hpl := put_length hp
        rw [bytesOf_length] at hpl
        rw [told_some, if_pos rfl, List.nil_append, get_F _ (by rw [size_strOf]; omega), bytes_strOf (put_bytes (bytes_of s) hp), get_put hp, told_some]
        rw [bind_some_, if_pos rfl, List.nil_append, strOf_bytes, if_pos rfl]
        exact back_J1 s (by omega) l hl hl2
end Go.Proofs.Ytookjnpmbenheaa.Pure
