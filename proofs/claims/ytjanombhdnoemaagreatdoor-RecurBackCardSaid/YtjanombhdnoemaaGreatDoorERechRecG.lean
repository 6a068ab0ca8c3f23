/- Functions of the family Rec without a bound on their rounds, and the equation that each meets. No condition. -/
import Derived.Test.YtjanombhdnoemaaGreatDoorBase
import Derived.Test.YtjanombhdnoemaaGreatDoorRecF
import Derived.Test.YtjanombhdnoemaaGreatDoorRecG
import Derived.Test.YtjanombhdnoemaaGreatDoorERecx11
import Derived.Test.YtjanombhdnoemaaGreatDoorERechRecE
/- Functions of the family Rec without a bound on their rounds, and the equation that each meets. No condition. -/
namespace Go.Proofs.YtjanombhdnoemaaGreatDoor.PRec
open Go.RowKit Go.Proofs.YtjanombhdnoemaaGreatDoorW.PrintWords Go.Proofs.YtjanombhdnoemaaGreatDoorW.PrintLast Go.Proofs.YtjanombhdnoemaaGreatDoorW.PrintMore Go.Proofs.YtjanombhdnoemaaGreatDoor.Base
set_option linter.unusedVariables false
noncomputable def recur_texts.L0 (x0 : List (ByteArray × List Int)) (x1 : List ByteArray) (x2 : Int) : Option (List ByteArray) := lim fun k => recur_texts.l0 k x0 x1 x2
noncomputable def recur_texts.J2 (x0 : List (ByteArray × List Int)) (x1 : List ByteArray) (x2 : Int) (x3 : List ByteArray) : Option (List ByteArray) := lim fun k => recur_texts.j2 k x0 x1 x2 x3
noncomputable def recur_texts.L1 (x0 : List Int) (x1 : List ByteArray) (x2 : Int) : Option (List ByteArray) := lim fun k => recur_texts.l1 k x0 x1 x2
noncomputable def recur_texts.F (l0 : List (ByteArray × List Int)) : Option (List ByteArray) := lim fun k => recur_texts.f k l0
theorem recur_texts.isL0 (x0 : List (ByteArray × List Int)) (x1 : List ByteArray) (x2 : Int) : IsLim (fun k => recur_texts.l0 k x0 x1 x2) (recur_texts.L0 x0 x1 x2) := ⟨fun k => (recur_texts.mono_l k).1 x0 x1 x2, rfl⟩
theorem recur_texts.isJ2 (x0 : List (ByteArray × List Int)) (x1 : List ByteArray) (x2 : Int) (x3 : List ByteArray) : IsLim (fun k => recur_texts.j2 k x0 x1 x2 x3) (recur_texts.J2 x0 x1 x2 x3) := ⟨fun k => (recur_texts.mono_l k).2.1 x0 x1 x2 x3, rfl⟩
theorem recur_texts.isL1 (x0 : List Int) (x1 : List ByteArray) (x2 : Int) : IsLim (fun k => recur_texts.l1 k x0 x1 x2) (recur_texts.L1 x0 x1 x2) := ⟨fun k => (recur_texts.mono_l k).2.2 x0 x1 x2, rfl⟩
theorem recur_texts.isF (l0 : List (ByteArray × List Int)) : IsLim (fun k => recur_texts.f k l0) (recur_texts.F l0) := ⟨fun k => recur_texts.mono l0 k, rfl⟩
theorem recur_texts.L0_eq (x0 : List (ByteArray × List Int)) (x1 : List ByteArray) (x2 : Int) : recur_texts.L0 x0 x1 x2 = if x2 < (x0.length : Int) then (if 0 ≤ x2 then ((recur_texts.L1 (rdOf ((⟨#[]⟩ : ByteArray), ([] : List Int)) x0 x2).2 ([] : List ByteArray) 0).bind fun t1 => (recur_texts.J2 x0 x1 x2 t1)) else (none)) else (some x1) := by
  apply IsLim.step (recur_texts.isL0 x0 x1 x2).mono
  case hf =>
    repeat'
      try intro _
      first
      | (with_reducible exact recur_texts.isJ2 _ _ _ _)
      | (with_reducible exact recur_texts.isL1 _ _ _)
      | (with_reducible apply IsLim.ite)
      | (with_reducible apply IsLim.bind)
      | (apply IsLim.cst; intro _; exact rfl)
  case h => intro k; rw [recur_texts.l0]
theorem recur_texts.J2_eq (x0 : List (ByteArray × List Int)) (x1 : List ByteArray) (x2 : Int) (x3 : List ByteArray) : recur_texts.J2 x0 x1 x2 x3 = if (x3.length : Int) > 0 then (if (rdOf ((⟨#[]⟩ : ByteArray), ([] : List Int)) x0 x2).1.size + 1 ≤ 9223372036854775807 then ((strings_Join.f x3 (⟨#[44]⟩ : ByteArray)).bind fun t2 => (if ((rdOf ((⟨#[]⟩ : ByteArray), ([] : List Int)) x0 x2).1 ++ (⟨#[61]⟩ : ByteArray)).size + t2.size ≤ 9223372036854775807 then (if x1.length < 8796093022208 then (recur_texts.L0 x0 (x1 ++ [((rdOf ((⟨#[]⟩ : ByteArray), ([] : List Int)) x0 x2).1 ++ (⟨#[61]⟩ : ByteArray)) ++ t2]) (wrap64 (x2 + 1))) else (none)) else (none))) else (none)) else (recur_texts.L0 x0 x1 (wrap64 (x2 + 1))) := by
  apply IsLim.step (recur_texts.isJ2 x0 x1 x2 x3).mono
  case hf =>
    repeat'
      try intro _
      first
      | (with_reducible exact recur_texts.isL0 _ _ _)
      | (with_reducible apply IsLim.ite)
      | (with_reducible apply IsLim.bind)
      | (apply IsLim.cst; intro _; exact rfl)
  case h => intro k; rw [recur_texts.j2]
theorem recur_texts.L1_eq (x0 : List Int) (x1 : List ByteArray) (x2 : Int) : recur_texts.L1 x0 x1 x2 = if x2 < (x0.length : Int) then (if 0 ≤ x2 then ((recur_signed.f (rd x0 x2)).bind fun t3 => (if x1.length < 8796093022208 then (recur_texts.L1 x0 (x1 ++ [t3]) (wrap64 (x2 + 1))) else (none))) else (none)) else (some x1) := by
  apply IsLim.step (recur_texts.isL1 x0 x1 x2).mono
  case hf =>
    repeat'
      try intro _
      first
      | (with_reducible exact recur_texts.isL1 _ _ _)
      | (with_reducible apply IsLim.ite)
      | (with_reducible apply IsLim.bind)
      | (apply IsLim.cst; intro _; exact rfl)
  case h => intro k; rw [recur_texts.l1]
theorem recur_texts.F_eq (l0 : List (ByteArray × List Int)) : recur_texts.F l0 = recur_texts.L0 l0 ([] : List ByteArray) 0 := by
  apply IsLim.via
  case hf =>
    repeat'
      try intro _
      first
      | (with_reducible exact recur_texts.isL0 _ _ _)
      | (with_reducible apply IsLim.ite)
      | (with_reducible apply IsLim.bind)
      | (apply IsLim.cst; intro _; exact rfl)
  case h => exact fun _ => rfl
end Go.Proofs.YtjanombhdnoemaaGreatDoor.PRec

namespace Go.Proofs.YtjanombhdnoemaaGreatDoor.PRec
open Go.RowKit Go.Proofs.YtjanombhdnoemaaGreatDoorW.PrintWords Go.Proofs.YtjanombhdnoemaaGreatDoorW.PrintLast Go.Proofs.YtjanombhdnoemaaGreatDoorW.PrintMore Go.Proofs.YtjanombhdnoemaaGreatDoor.Base
set_option linter.unusedVariables false
noncomputable def rt_until.F (a3 : Bool) (a4 : Int) (a5 : Bool) (o : List ByteArray) : Option (List ByteArray) := lim fun k => rt_until k a3 a4 a5 o
theorem rt_until.isF (a3 : Bool) (a4 : Int) (a5 : Bool) (o : List ByteArray) : IsLim (fun k => rt_until k a3 a4 a5 o) (rt_until.F a3 a4 a5 o) := ⟨fun k => rt_until.mono k a3 a4 a5 o, rfl⟩
theorem rt_until.F_eq (a3 : Bool) (a4 : Int) (a5 : Bool) (o : List ByteArray) : rt_until.F a3 a4 a5 o = if a3 = true then ((value_Time.F a4 a5).bind fun b => rt_add o (⟨#[85, 78, 84, 73, 76, 61]⟩ : ByteArray) b.1) else some o := by
  apply IsLim.via
  case hf =>
    repeat'
      try intro _
      first
      | (with_reducible exact value_Time.isF _ _)
      | (with_reducible apply IsLim.ite)
      | (with_reducible apply IsLim.bind)
      | (apply IsLim.cst; intro _; exact rfl)
  case h => exact fun _ => rfl
noncomputable def rt_lists.F (ls : List (ByteArray × List Int)) (o : List ByteArray) : Option (List ByteArray) := lim fun k => rt_lists k ls o
theorem rt_lists.isF (ls : List (ByteArray × List Int)) (o : List ByteArray) : IsLim (fun k => rt_lists k ls o) (rt_lists.F ls o) := ⟨fun k => rt_lists.mono k ls o, rfl⟩
theorem rt_lists.F_eq (ls : List (ByteArray × List Int)) (o : List ByteArray) : rt_lists.F ls o = (recur_texts.F ls).bind fun ts => if o.length + ts.length ≤ 8796093022208 then some (o ++ ts) else none := by
  apply IsLim.via
  case hf =>
    repeat'
      try intro _
      first
      | (with_reducible exact recur_texts.isF _)
      | (with_reducible apply IsLim.ite)
      | (with_reducible apply IsLim.bind)
      | (apply IsLim.cst; intro _; exact rfl)
  case h => exact fun _ => rfl
noncomputable def rt_words.L0 (x0 : List S38) (x1 : List ByteArray) (x2 : Int) : Option (List ByteArray) := lim fun k => rt_words k x0 x1 x2
theorem rt_words.isL0 (x0 : List S38) (x1 : List ByteArray) (x2 : Int) : IsLim (fun k => rt_words k x0 x1 x2) (rt_words.L0 x0 x1 x2) := ⟨fun k => rt_words.mono k x0 x1 x2, rfl⟩
theorem rt_words.L0_eq (x0 : List S38) (x1 : List ByteArray) (x2 : Int) : rt_words.L0 x0 x1 x2 = if x2 < (x0.length : Int) then (if 0 ≤ x2 then ((rt_day (rd_T38 x0 x2)).bind fun t => (if x1.length < 8796093022208 then rt_words.L0 x0 (x1 ++ [t]) (wrap64 (x2 + 1)) else none)) else none) else some x1 := by
  apply IsLim.step (rt_words.isL0 x0 x1 x2).mono
  case hf =>
    repeat'
      try intro _
      first
      | (with_reducible exact rt_words.isL0 _ _ _)
      | (with_reducible apply IsLim.ite)
      | (with_reducible apply IsLim.bind)
      | (apply IsLim.cst; intro _; exact rfl)
  case h => intro k; rw [rt_words]
noncomputable def rt_go.F (a1 : Int) (a2 : Int) (a3 : Bool) (a4 : Int) (a5 : Bool) (l6 : List Int) (l7 : List Int) (l8 : List Int) (l9 : List (S38)) (l10 : List Int) (l11 : List Int) (l12 : List Int) (l13 : List Int) (l14 : List Int) (a15 : Int) (o : List ByteArray) : Option (ByteArray × Int) := lim fun k => rt_go k a1 a2 a3 a4 a5 l6 l7 l8 l9 l10 l11 l12 l13 l14 a15 o
theorem rt_go.isF (a1 : Int) (a2 : Int) (a3 : Bool) (a4 : Int) (a5 : Bool) (l6 : List Int) (l7 : List Int) (l8 : List Int) (l9 : List (S38)) (l10 : List Int) (l11 : List Int) (l12 : List Int) (l13 : List Int) (l14 : List Int) (a15 : Int) (o : List ByteArray) : IsLim (fun k => rt_go k a1 a2 a3 a4 a5 l6 l7 l8 l9 l10 l11 l12 l13 l14 a15 o) (rt_go.F a1 a2 a3 a4 a5 l6 l7 l8 l9 l10 l11 l12 l13 l14 a15 o) := by
  refine ⟨?_, rfl⟩
  intro k
  unfold rt_go
  repeat' first | (with_reducible first | exact rt_lists.mono _ _ _ | exact rt_until.mono _ _ _ _ _ | exact rt_words.mono _ _ _ _ | exact LeO.refl _ | exact LeO.none _ | refine LeO.ite ?_ ?_ | refine LeO.bind ?_ (fun _ => ?_))
theorem rt_go.F_eq (a1 : Int) (a2 : Int) (a3 : Bool) (a4 : Int) (a5 : Bool) (l6 : List Int) (l7 : List Int) (l8 : List Int) (l9 : List (S38)) (l10 : List Int) (l11 : List Int) (l12 : List Int) (l13 : List Int) (l14 : List Int) (a15 : Int) (o : List ByteArray) : rt_go.F a1 a2 a3 a4 a5 l6 l7 l8 l9 l10 l11 l12 l13 l14 a15 o = (rt_num (⟨#[73, 78, 84, 69, 82, 86, 65, 76, 61]⟩ : ByteArray) 1 a1 o).bind fun o1 => (rt_num (⟨#[67, 79, 85, 78, 84, 61]⟩ : ByteArray) 0 a2 o1).bind fun o2 => (rt_until.F a3 a4 a5 o2).bind fun o3 => (rt_lists.F (rt_bef l13 l12 l11 l10) o3).bind fun o4 => (rt_words.L0 l9 ([] : List ByteArray) 0).bind fun ws => (rt_byday ws o4).bind fun o5 => (rt_lists.F (rt_beh l8 l7 l6 l14) o5).bind fun o6 => (rt_wkst a15 o6).bind fun o7 => (strings_Join.f o7 (⟨#[59]⟩ : ByteArray)).bind fun s => some (s, (0 : Int)) := by
  apply IsLim.via
  case hf =>
    repeat'
      try intro _
      first
      | (with_reducible exact rt_lists.isF _ _)
      | (with_reducible exact rt_until.isF _ _ _ _)
      | (with_reducible exact rt_words.isL0 _ _ _)
      | (with_reducible apply IsLim.ite)
      | (with_reducible apply IsLim.bind)
      | (apply IsLim.cst; intro _; exact rfl)
  case h => exact fun _ => rfl
noncomputable def recur_Text.F (a0 : Int) (a1 : Int) (a2 : Int) (a3 : Bool) (a4 : Int) (a5 : Bool) (l6 : List Int) (l7 : List Int) (l8 : List Int) (l9 : List (S38)) (l10 : List Int) (l11 : List Int) (l12 : List Int) (l13 : List Int) (l14 : List Int) (a15 : Int) : Option (ByteArray × Int) := lim fun k => recur_Text.f k a0 a1 a2 a3 a4 a5 l6 l7 l8 l9 l10 l11 l12 l13 l14 a15
theorem recur_Text.isF (a0 : Int) (a1 : Int) (a2 : Int) (a3 : Bool) (a4 : Int) (a5 : Bool) (l6 : List Int) (l7 : List Int) (l8 : List Int) (l9 : List (S38)) (l10 : List Int) (l11 : List Int) (l12 : List Int) (l13 : List Int) (l14 : List Int) (a15 : Int) : IsLim (fun k => recur_Text.f k a0 a1 a2 a3 a4 a5 l6 l7 l8 l9 l10 l11 l12 l13 l14 a15) (recur_Text.F a0 a1 a2 a3 a4 a5 l6 l7 l8 l9 l10 l11 l12 l13 l14 a15) := ⟨fun k => recur_Text.mono a0 a1 a2 a3 a4 a5 l6 l7 l8 l9 l10 l11 l12 l13 l14 a15 k, rfl⟩
theorem recur_Text.F_eq (a0 : Int) (a1 : Int) (a2 : Int) (a3 : Bool) (a4 : Int) (a5 : Bool) (l6 : List Int) (l7 : List Int) (l8 : List Int) (l9 : List (S38)) (l10 : List Int) (l11 : List Int) (l12 : List Int) (l13 : List Int) (l14 : List Int) (a15 : Int) : recur_Text.F a0 a1 a2 a3 a4 a5 l6 l7 l8 l9 l10 l11 l12 l13 l14 a15 = (recur_Check.F a0 a1 a2 a3 a4 a5 l6 l7 l8 l9 l10 l11 l12 l13 l14 a15).bind fun e => if e = 0 then (recur_freqs.f.bind fun fr => (if 0 ≤ wrap64 (a0 - 1) then (if wrap64 (a0 - 1) < (fr.length : Int) then (if 5 + (rdOf ByteArray.empty fr (wrap64 (a0 - 1))).size ≤ 9223372036854775807 then rt_go.F a1 a2 a3 a4 a5 l6 l7 l8 l9 l10 l11 l12 l13 l14 a15 [(⟨#[70, 82, 69, 81, 61]⟩ : ByteArray) ++ (rdOf ByteArray.empty fr (wrap64 (a0 - 1)))] else none) else none) else none)) else some ((⟨#[]⟩ : ByteArray), e) := by
  apply IsLim.via
  case hf =>
    repeat'
      try intro _
      first
      | (with_reducible exact recur_Check.isF _ _ _ _ _ _ _ _ _ _ _ _ _ _ _ _)
      | (with_reducible exact rt_go.isF _ _ _ _ _ _ _ _ _ _ _ _ _ _ _ _)
      | (with_reducible apply IsLim.ite)
      | (with_reducible apply IsLim.bind)
      | (apply IsLim.cst; intro _; exact rfl)
  case h => exact fun _ => rfl
end Go.Proofs.YtjanombhdnoemaaGreatDoor.PRec
