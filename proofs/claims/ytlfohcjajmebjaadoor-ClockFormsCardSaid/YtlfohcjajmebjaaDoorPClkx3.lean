-- Printed by a program of this session's over the kit's printer; library functions by contracts off the shelf.
import Derived.Test.YtlfohcjajmebjaaDoorGP
import Derived.Test.YtlfohcjajmebjaaDoorPClkx0
import Derived.Test.YtlfohcjajmebjaaDoorPClkx1
import Derived.Test.YtlfohcjajmebjaaDoorPClkx2
namespace Go.Proofs.YtlfohcjajmebjaaDoor.PClk
open Go.RowKit Go.Proofs.YtlfohcjajmebjaaDoorW.PrintWords Go.Proofs.YtlfohcjajmebjaaDoorW.PrintLast Go.Proofs.YtlfohcjajmebjaaDoorW.PrintMore Go.Proofs.YtlfohcjajmebjaaDoor.Base
attribute [local go_sem] max2_int min2_int max_two min_two max_three min_three max_four min_four   -- for this text's walks alone
set_option linter.unusedVariables false
set_option linter.unusedSimpArgs false
def solsticelaw04_ClockForms.j0 : Nat → ByteArray → Int → Bool → Option (Bool)
 | 0, _, _, _ => none
 | k + 1, x13, x14, x15 => (clock_Parse.f k x13).bind fun bt127 => (if x15 = true then (if bt127.2 = 0 then (if bt127.1 = x14 then ((solsticelaw04_wakes.f k).bind fun t129 => (some t129)) else (some false)) else (some false)) else (if bt127.2 = 5 then (if bt127.1 = 0 then ((solsticelaw04_wakes.f k).bind fun t130 => (some t130)) else (some false)) else (some false)))
def solsticelaw04_ClockForms.f (k : Nat) (a0 : Int) (a1 : Int) (a2 : Int) (a3 : Int) : Option (Bool) := if 0 ≤ (wrap64 (Int.tdiv (wrap64 (Int.tmod (IntKind.u64.wrap (a0)) 96)) 10)) then (if (wrap64 (Int.tdiv (wrap64 (Int.tmod (IntKind.u64.wrap (a0)) 96)) 10)) ≤ (wrap64 ((wrap64 (Int.tdiv (wrap64 (Int.tmod (IntKind.u64.wrap (a0)) 96)) 10)) + 1)) then (if (wrap64 ((wrap64 (Int.tdiv (wrap64 (Int.tmod (IntKind.u64.wrap (a0)) 96)) 10)) + 1)) ≤ 10 then (if 0 ≤ (Int.tmod (wrap64 (Int.tmod (IntKind.u64.wrap (a0)) 96)) 10) then (if (Int.tmod (wrap64 (Int.tmod (IntKind.u64.wrap (a0)) 96)) 10) ≤ (wrap64 ((Int.tmod (wrap64 (Int.tmod (IntKind.u64.wrap (a0)) 96)) 10) + 1)) then (if (wrap64 ((Int.tmod (wrap64 (Int.tmod (IntKind.u64.wrap (a0)) 96)) 10) + 1)) ≤ 10 then (if ((⟨#[48, 49, 50, 51, 52, 53, 54, 55, 56, 57]⟩ : ByteArray).extract ((wrap64 (Int.tdiv (wrap64 (Int.tmod (IntKind.u64.wrap (a0)) 96)) 10)) : Int).toNat ((wrap64 ((wrap64 (Int.tdiv (wrap64 (Int.tmod (IntKind.u64.wrap (a0)) 96)) 10)) + 1)) : Int).toNat).size + ((⟨#[48, 49, 50, 51, 52, 53, 54, 55, 56, 57]⟩ : ByteArray).extract ((Int.tmod (wrap64 (Int.tmod (IntKind.u64.wrap (a0)) 96)) 10) : Int).toNat ((wrap64 ((Int.tmod (wrap64 (Int.tmod (IntKind.u64.wrap (a0)) 96)) 10) + 1)) : Int).toNat).size ≤ 9223372036854775807 then (if 0 ≤ (wrap64 (Int.tdiv (wrap64 (Int.tmod (IntKind.u64.wrap (a1)) 60)) 10)) then (if (wrap64 (Int.tdiv (wrap64 (Int.tmod (IntKind.u64.wrap (a1)) 60)) 10)) ≤ (wrap64 ((wrap64 (Int.tdiv (wrap64 (Int.tmod (IntKind.u64.wrap (a1)) 60)) 10)) + 1)) then (if (wrap64 ((wrap64 (Int.tdiv (wrap64 (Int.tmod (IntKind.u64.wrap (a1)) 60)) 10)) + 1)) ≤ 10 then (if 0 ≤ (Int.tmod (wrap64 (Int.tmod (IntKind.u64.wrap (a1)) 60)) 10) then (if (Int.tmod (wrap64 (Int.tmod (IntKind.u64.wrap (a1)) 60)) 10) ≤ (wrap64 ((Int.tmod (wrap64 (Int.tmod (IntKind.u64.wrap (a1)) 60)) 10) + 1)) then (if (wrap64 ((Int.tmod (wrap64 (Int.tmod (IntKind.u64.wrap (a1)) 60)) 10) + 1)) ≤ 10 then (if ((⟨#[48, 49, 50, 51, 52, 53, 54, 55, 56, 57]⟩ : ByteArray).extract ((wrap64 (Int.tdiv (wrap64 (Int.tmod (IntKind.u64.wrap (a1)) 60)) 10)) : Int).toNat ((wrap64 ((wrap64 (Int.tdiv (wrap64 (Int.tmod (IntKind.u64.wrap (a1)) 60)) 10)) + 1)) : Int).toNat).size + ((⟨#[48, 49, 50, 51, 52, 53, 54, 55, 56, 57]⟩ : ByteArray).extract ((Int.tmod (wrap64 (Int.tmod (IntKind.u64.wrap (a1)) 60)) 10) : Int).toNat ((wrap64 ((Int.tmod (wrap64 (Int.tmod (IntKind.u64.wrap (a1)) 60)) 10) + 1)) : Int).toNat).size ≤ 9223372036854775807 then (if 0 ≤ (wrap64 (Int.tdiv (wrap64 (Int.tmod (IntKind.u64.wrap (a2)) 60)) 10)) then (if (wrap64 (Int.tdiv (wrap64 (Int.tmod (IntKind.u64.wrap (a2)) 60)) 10)) ≤ (wrap64 ((wrap64 (Int.tdiv (wrap64 (Int.tmod (IntKind.u64.wrap (a2)) 60)) 10)) + 1)) then (if (wrap64 ((wrap64 (Int.tdiv (wrap64 (Int.tmod (IntKind.u64.wrap (a2)) 60)) 10)) + 1)) ≤ 10 then (if 0 ≤ (Int.tmod (wrap64 (Int.tmod (IntKind.u64.wrap (a2)) 60)) 10) then (if (Int.tmod (wrap64 (Int.tmod (IntKind.u64.wrap (a2)) 60)) 10) ≤ (wrap64 ((Int.tmod (wrap64 (Int.tmod (IntKind.u64.wrap (a2)) 60)) 10) + 1)) then (if (wrap64 ((Int.tmod (wrap64 (Int.tmod (IntKind.u64.wrap (a2)) 60)) 10) + 1)) ≤ 10 then (if ((⟨#[48, 49, 50, 51, 52, 53, 54, 55, 56, 57]⟩ : ByteArray).extract ((wrap64 (Int.tdiv (wrap64 (Int.tmod (IntKind.u64.wrap (a2)) 60)) 10)) : Int).toNat ((wrap64 ((wrap64 (Int.tdiv (wrap64 (Int.tmod (IntKind.u64.wrap (a2)) 60)) 10)) + 1)) : Int).toNat).size + ((⟨#[48, 49, 50, 51, 52, 53, 54, 55, 56, 57]⟩ : ByteArray).extract ((Int.tmod (wrap64 (Int.tmod (IntKind.u64.wrap (a2)) 60)) 10) : Int).toNat ((wrap64 ((Int.tmod (wrap64 (Int.tmod (IntKind.u64.wrap (a2)) 60)) 10) + 1)) : Int).toNat).size ≤ 9223372036854775807 then (if (Int.tmod (IntKind.u64.wrap (a3)) 10) = 1 then (if (((⟨#[48, 49, 50, 51, 52, 53, 54, 55, 56, 57]⟩ : ByteArray).extract ((wrap64 (Int.tdiv (wrap64 (Int.tmod (IntKind.u64.wrap (a0)) 96)) 10)) : Int).toNat ((wrap64 ((wrap64 (Int.tdiv (wrap64 (Int.tmod (IntKind.u64.wrap (a0)) 96)) 10)) + 1)) : Int).toNat) ++ ((⟨#[48, 49, 50, 51, 52, 53, 54, 55, 56, 57]⟩ : ByteArray).extract ((Int.tmod (wrap64 (Int.tmod (IntKind.u64.wrap (a0)) 96)) 10) : Int).toNat ((wrap64 ((Int.tmod (wrap64 (Int.tmod (IntKind.u64.wrap (a0)) 96)) 10) + 1)) : Int).toNat)).size + 1 ≤ 9223372036854775807 then (if ((((⟨#[48, 49, 50, 51, 52, 53, 54, 55, 56, 57]⟩ : ByteArray).extract ((wrap64 (Int.tdiv (wrap64 (Int.tmod (IntKind.u64.wrap (a0)) 96)) 10)) : Int).toNat ((wrap64 ((wrap64 (Int.tdiv (wrap64 (Int.tmod (IntKind.u64.wrap (a0)) 96)) 10)) + 1)) : Int).toNat) ++ ((⟨#[48, 49, 50, 51, 52, 53, 54, 55, 56, 57]⟩ : ByteArray).extract ((Int.tmod (wrap64 (Int.tmod (IntKind.u64.wrap (a0)) 96)) 10) : Int).toNat ((wrap64 ((Int.tmod (wrap64 (Int.tmod (IntKind.u64.wrap (a0)) 96)) 10) + 1)) : Int).toNat)) ++ (⟨#[58]⟩ : ByteArray)).size + (((⟨#[48, 49, 50, 51, 52, 53, 54, 55, 56, 57]⟩ : ByteArray).extract ((wrap64 (Int.tdiv (wrap64 (Int.tmod (IntKind.u64.wrap (a1)) 60)) 10)) : Int).toNat ((wrap64 ((wrap64 (Int.tdiv (wrap64 (Int.tmod (IntKind.u64.wrap (a1)) 60)) 10)) + 1)) : Int).toNat) ++ ((⟨#[48, 49, 50, 51, 52, 53, 54, 55, 56, 57]⟩ : ByteArray).extract ((Int.tmod (wrap64 (Int.tmod (IntKind.u64.wrap (a1)) 60)) 10) : Int).toNat ((wrap64 ((Int.tmod (wrap64 (Int.tmod (IntKind.u64.wrap (a1)) 60)) 10) + 1)) : Int).toNat)).size ≤ 9223372036854775807 then (solsticelaw04_ClockForms.j0 k (((((⟨#[48, 49, 50, 51, 52, 53, 54, 55, 56, 57]⟩ : ByteArray).extract ((wrap64 (Int.tdiv (wrap64 (Int.tmod (IntKind.u64.wrap (a0)) 96)) 10)) : Int).toNat ((wrap64 ((wrap64 (Int.tdiv (wrap64 (Int.tmod (IntKind.u64.wrap (a0)) 96)) 10)) + 1)) : Int).toNat) ++ ((⟨#[48, 49, 50, 51, 52, 53, 54, 55, 56, 57]⟩ : ByteArray).extract ((Int.tmod (wrap64 (Int.tmod (IntKind.u64.wrap (a0)) 96)) 10) : Int).toNat ((wrap64 ((Int.tmod (wrap64 (Int.tmod (IntKind.u64.wrap (a0)) 96)) 10) + 1)) : Int).toNat)) ++ (⟨#[58]⟩ : ByteArray)) ++ (((⟨#[48, 49, 50, 51, 52, 53, 54, 55, 56, 57]⟩ : ByteArray).extract ((wrap64 (Int.tdiv (wrap64 (Int.tmod (IntKind.u64.wrap (a1)) 60)) 10)) : Int).toNat ((wrap64 ((wrap64 (Int.tdiv (wrap64 (Int.tmod (IntKind.u64.wrap (a1)) 60)) 10)) + 1)) : Int).toNat) ++ ((⟨#[48, 49, 50, 51, 52, 53, 54, 55, 56, 57]⟩ : ByteArray).extract ((Int.tmod (wrap64 (Int.tmod (IntKind.u64.wrap (a1)) 60)) 10) : Int).toNat ((wrap64 ((Int.tmod (wrap64 (Int.tmod (IntKind.u64.wrap (a1)) 60)) 10) + 1)) : Int).toNat))) (wrap64 ((wrap64 (3600 * (wrap64 (Int.tmod (IntKind.u64.wrap (a0)) 96)))) + (wrap64 (60 * (wrap64 (Int.tmod (IntKind.u64.wrap (a1)) 60)))))) true) else (none)) else (none)) else (if (Int.tmod (IntKind.u64.wrap (a3)) 10) = 2 then (if (((⟨#[48, 49, 50, 51, 52, 53, 54, 55, 56, 57]⟩ : ByteArray).extract ((wrap64 (Int.tdiv (wrap64 (Int.tmod (IntKind.u64.wrap (a0)) 96)) 10)) : Int).toNat ((wrap64 ((wrap64 (Int.tdiv (wrap64 (Int.tmod (IntKind.u64.wrap (a0)) 96)) 10)) + 1)) : Int).toNat) ++ ((⟨#[48, 49, 50, 51, 52, 53, 54, 55, 56, 57]⟩ : ByteArray).extract ((Int.tmod (wrap64 (Int.tmod (IntKind.u64.wrap (a0)) 96)) 10) : Int).toNat ((wrap64 ((Int.tmod (wrap64 (Int.tmod (IntKind.u64.wrap (a0)) 96)) 10) + 1)) : Int).toNat)).size + 1 ≤ 9223372036854775807 then (if ((((⟨#[48, 49, 50, 51, 52, 53, 54, 55, 56, 57]⟩ : ByteArray).extract ((wrap64 (Int.tdiv (wrap64 (Int.tmod (IntKind.u64.wrap (a0)) 96)) 10)) : Int).toNat ((wrap64 ((wrap64 (Int.tdiv (wrap64 (Int.tmod (IntKind.u64.wrap (a0)) 96)) 10)) + 1)) : Int).toNat) ++ ((⟨#[48, 49, 50, 51, 52, 53, 54, 55, 56, 57]⟩ : ByteArray).extract ((Int.tmod (wrap64 (Int.tmod (IntKind.u64.wrap (a0)) 96)) 10) : Int).toNat ((wrap64 ((Int.tmod (wrap64 (Int.tmod (IntKind.u64.wrap (a0)) 96)) 10) + 1)) : Int).toNat)) ++ (⟨#[58]⟩ : ByteArray)).size + (((⟨#[48, 49, 50, 51, 52, 53, 54, 55, 56, 57]⟩ : ByteArray).extract ((wrap64 (Int.tdiv (wrap64 (Int.tmod (IntKind.u64.wrap (a1)) 60)) 10)) : Int).toNat ((wrap64 ((wrap64 (Int.tdiv (wrap64 (Int.tmod (IntKind.u64.wrap (a1)) 60)) 10)) + 1)) : Int).toNat) ++ ((⟨#[48, 49, 50, 51, 52, 53, 54, 55, 56, 57]⟩ : ByteArray).extract ((Int.tmod (wrap64 (Int.tmod (IntKind.u64.wrap (a1)) 60)) 10) : Int).toNat ((wrap64 ((Int.tmod (wrap64 (Int.tmod (IntKind.u64.wrap (a1)) 60)) 10) + 1)) : Int).toNat)).size ≤ 9223372036854775807 then (if (((((⟨#[48, 49, 50, 51, 52, 53, 54, 55, 56, 57]⟩ : ByteArray).extract ((wrap64 (Int.tdiv (wrap64 (Int.tmod (IntKind.u64.wrap (a0)) 96)) 10)) : Int).toNat ((wrap64 ((wrap64 (Int.tdiv (wrap64 (Int.tmod (IntKind.u64.wrap (a0)) 96)) 10)) + 1)) : Int).toNat) ++ ((⟨#[48, 49, 50, 51, 52, 53, 54, 55, 56, 57]⟩ : ByteArray).extract ((Int.tmod (wrap64 (Int.tmod (IntKind.u64.wrap (a0)) 96)) 10) : Int).toNat ((wrap64 ((Int.tmod (wrap64 (Int.tmod (IntKind.u64.wrap (a0)) 96)) 10) + 1)) : Int).toNat)) ++ (⟨#[58]⟩ : ByteArray)) ++ (((⟨#[48, 49, 50, 51, 52, 53, 54, 55, 56, 57]⟩ : ByteArray).extract ((wrap64 (Int.tdiv (wrap64 (Int.tmod (IntKind.u64.wrap (a1)) 60)) 10)) : Int).toNat ((wrap64 ((wrap64 (Int.tdiv (wrap64 (Int.tmod (IntKind.u64.wrap (a1)) 60)) 10)) + 1)) : Int).toNat) ++ ((⟨#[48, 49, 50, 51, 52, 53, 54, 55, 56, 57]⟩ : ByteArray).extract ((Int.tmod (wrap64 (Int.tmod (IntKind.u64.wrap (a1)) 60)) 10) : Int).toNat ((wrap64 ((Int.tmod (wrap64 (Int.tmod (IntKind.u64.wrap (a1)) 60)) 10) + 1)) : Int).toNat))).size + 1 ≤ 9223372036854775807 then (if ((((((⟨#[48, 49, 50, 51, 52, 53, 54, 55, 56, 57]⟩ : ByteArray).extract ((wrap64 (Int.tdiv (wrap64 (Int.tmod (IntKind.u64.wrap (a0)) 96)) 10)) : Int).toNat ((wrap64 ((wrap64 (Int.tdiv (wrap64 (Int.tmod (IntKind.u64.wrap (a0)) 96)) 10)) + 1)) : Int).toNat) ++ ((⟨#[48, 49, 50, 51, 52, 53, 54, 55, 56, 57]⟩ : ByteArray).extract ((Int.tmod (wrap64 (Int.tmod (IntKind.u64.wrap (a0)) 96)) 10) : Int).toNat ((wrap64 ((Int.tmod (wrap64 (Int.tmod (IntKind.u64.wrap (a0)) 96)) 10) + 1)) : Int).toNat)) ++ (⟨#[58]⟩ : ByteArray)) ++ (((⟨#[48, 49, 50, 51, 52, 53, 54, 55, 56, 57]⟩ : ByteArray).extract ((wrap64 (Int.tdiv (wrap64 (Int.tmod (IntKind.u64.wrap (a1)) 60)) 10)) : Int).toNat ((wrap64 ((wrap64 (Int.tdiv (wrap64 (Int.tmod (IntKind.u64.wrap (a1)) 60)) 10)) + 1)) : Int).toNat) ++ ((⟨#[48, 49, 50, 51, 52, 53, 54, 55, 56, 57]⟩ : ByteArray).extract ((Int.tmod (wrap64 (Int.tmod (IntKind.u64.wrap (a1)) 60)) 10) : Int).toNat ((wrap64 ((Int.tmod (wrap64 (Int.tmod (IntKind.u64.wrap (a1)) 60)) 10) + 1)) : Int).toNat))) ++ (⟨#[58]⟩ : ByteArray)).size + (((⟨#[48, 49, 50, 51, 52, 53, 54, 55, 56, 57]⟩ : ByteArray).extract ((wrap64 (Int.tdiv (wrap64 (Int.tmod (IntKind.u64.wrap (a2)) 60)) 10)) : Int).toNat ((wrap64 ((wrap64 (Int.tdiv (wrap64 (Int.tmod (IntKind.u64.wrap (a2)) 60)) 10)) + 1)) : Int).toNat) ++ ((⟨#[48, 49, 50, 51, 52, 53, 54, 55, 56, 57]⟩ : ByteArray).extract ((Int.tmod (wrap64 (Int.tmod (IntKind.u64.wrap (a2)) 60)) 10) : Int).toNat ((wrap64 ((Int.tmod (wrap64 (Int.tmod (IntKind.u64.wrap (a2)) 60)) 10) + 1)) : Int).toNat)).size ≤ 9223372036854775807 then (solsticelaw04_ClockForms.j0 k (((((((⟨#[48, 49, 50, 51, 52, 53, 54, 55, 56, 57]⟩ : ByteArray).extract ((wrap64 (Int.tdiv (wrap64 (Int.tmod (IntKind.u64.wrap (a0)) 96)) 10)) : Int).toNat ((wrap64 ((wrap64 (Int.tdiv (wrap64 (Int.tmod (IntKind.u64.wrap (a0)) 96)) 10)) + 1)) : Int).toNat) ++ ((⟨#[48, 49, 50, 51, 52, 53, 54, 55, 56, 57]⟩ : ByteArray).extract ((Int.tmod (wrap64 (Int.tmod (IntKind.u64.wrap (a0)) 96)) 10) : Int).toNat ((wrap64 ((Int.tmod (wrap64 (Int.tmod (IntKind.u64.wrap (a0)) 96)) 10) + 1)) : Int).toNat)) ++ (⟨#[58]⟩ : ByteArray)) ++ (((⟨#[48, 49, 50, 51, 52, 53, 54, 55, 56, 57]⟩ : ByteArray).extract ((wrap64 (Int.tdiv (wrap64 (Int.tmod (IntKind.u64.wrap (a1)) 60)) 10)) : Int).toNat ((wrap64 ((wrap64 (Int.tdiv (wrap64 (Int.tmod (IntKind.u64.wrap (a1)) 60)) 10)) + 1)) : Int).toNat) ++ ((⟨#[48, 49, 50, 51, 52, 53, 54, 55, 56, 57]⟩ : ByteArray).extract ((Int.tmod (wrap64 (Int.tmod (IntKind.u64.wrap (a1)) 60)) 10) : Int).toNat ((wrap64 ((Int.tmod (wrap64 (Int.tmod (IntKind.u64.wrap (a1)) 60)) 10) + 1)) : Int).toNat))) ++ (⟨#[58]⟩ : ByteArray)) ++ (((⟨#[48, 49, 50, 51, 52, 53, 54, 55, 56, 57]⟩ : ByteArray).extract ((wrap64 (Int.tdiv (wrap64 (Int.tmod (IntKind.u64.wrap (a2)) 60)) 10)) : Int).toNat ((wrap64 ((wrap64 (Int.tdiv (wrap64 (Int.tmod (IntKind.u64.wrap (a2)) 60)) 10)) + 1)) : Int).toNat) ++ ((⟨#[48, 49, 50, 51, 52, 53, 54, 55, 56, 57]⟩ : ByteArray).extract ((Int.tmod (wrap64 (Int.tmod (IntKind.u64.wrap (a2)) 60)) 10) : Int).toNat ((wrap64 ((Int.tmod (wrap64 (Int.tmod (IntKind.u64.wrap (a2)) 60)) 10) + 1)) : Int).toNat))) (wrap64 ((wrap64 ((wrap64 (3600 * (wrap64 (Int.tmod (IntKind.u64.wrap (a0)) 96)))) + (wrap64 (60 * (wrap64 (Int.tmod (IntKind.u64.wrap (a1)) 60)))))) + (wrap64 (Int.tmod (IntKind.u64.wrap (a2)) 60)))) true) else (none)) else (none)) else (none)) else (none)) else (if (Int.tmod (IntKind.u64.wrap (a3)) 10) = 3 then (if 1 + (((⟨#[48, 49, 50, 51, 52, 53, 54, 55, 56, 57]⟩ : ByteArray).extract ((wrap64 (Int.tdiv (wrap64 (Int.tmod (IntKind.u64.wrap (a0)) 96)) 10)) : Int).toNat ((wrap64 ((wrap64 (Int.tdiv (wrap64 (Int.tmod (IntKind.u64.wrap (a0)) 96)) 10)) + 1)) : Int).toNat) ++ ((⟨#[48, 49, 50, 51, 52, 53, 54, 55, 56, 57]⟩ : ByteArray).extract ((Int.tmod (wrap64 (Int.tmod (IntKind.u64.wrap (a0)) 96)) 10) : Int).toNat ((wrap64 ((Int.tmod (wrap64 (Int.tmod (IntKind.u64.wrap (a0)) 96)) 10) + 1)) : Int).toNat)).size ≤ 9223372036854775807 then (if ((⟨#[45]⟩ : ByteArray) ++ (((⟨#[48, 49, 50, 51, 52, 53, 54, 55, 56, 57]⟩ : ByteArray).extract ((wrap64 (Int.tdiv (wrap64 (Int.tmod (IntKind.u64.wrap (a0)) 96)) 10)) : Int).toNat ((wrap64 ((wrap64 (Int.tdiv (wrap64 (Int.tmod (IntKind.u64.wrap (a0)) 96)) 10)) + 1)) : Int).toNat) ++ ((⟨#[48, 49, 50, 51, 52, 53, 54, 55, 56, 57]⟩ : ByteArray).extract ((Int.tmod (wrap64 (Int.tmod (IntKind.u64.wrap (a0)) 96)) 10) : Int).toNat ((wrap64 ((Int.tmod (wrap64 (Int.tmod (IntKind.u64.wrap (a0)) 96)) 10) + 1)) : Int).toNat))).size + 1 ≤ 9223372036854775807 then (if (((⟨#[45]⟩ : ByteArray) ++ (((⟨#[48, 49, 50, 51, 52, 53, 54, 55, 56, 57]⟩ : ByteArray).extract ((wrap64 (Int.tdiv (wrap64 (Int.tmod (IntKind.u64.wrap (a0)) 96)) 10)) : Int).toNat ((wrap64 ((wrap64 (Int.tdiv (wrap64 (Int.tmod (IntKind.u64.wrap (a0)) 96)) 10)) + 1)) : Int).toNat) ++ ((⟨#[48, 49, 50, 51, 52, 53, 54, 55, 56, 57]⟩ : ByteArray).extract ((Int.tmod (wrap64 (Int.tmod (IntKind.u64.wrap (a0)) 96)) 10) : Int).toNat ((wrap64 ((Int.tmod (wrap64 (Int.tmod (IntKind.u64.wrap (a0)) 96)) 10) + 1)) : Int).toNat))) ++ (⟨#[58]⟩ : ByteArray)).size + (((⟨#[48, 49, 50, 51, 52, 53, 54, 55, 56, 57]⟩ : ByteArray).extract ((wrap64 (Int.tdiv (wrap64 (Int.tmod (IntKind.u64.wrap (a1)) 60)) 10)) : Int).toNat ((wrap64 ((wrap64 (Int.tdiv (wrap64 (Int.tmod (IntKind.u64.wrap (a1)) 60)) 10)) + 1)) : Int).toNat) ++ ((⟨#[48, 49, 50, 51, 52, 53, 54, 55, 56, 57]⟩ : ByteArray).extract ((Int.tmod (wrap64 (Int.tmod (IntKind.u64.wrap (a1)) 60)) 10) : Int).toNat ((wrap64 ((Int.tmod (wrap64 (Int.tmod (IntKind.u64.wrap (a1)) 60)) 10) + 1)) : Int).toNat)).size ≤ 9223372036854775807 then (solsticelaw04_ClockForms.j0 k ((((⟨#[45]⟩ : ByteArray) ++ (((⟨#[48, 49, 50, 51, 52, 53, 54, 55, 56, 57]⟩ : ByteArray).extract ((wrap64 (Int.tdiv (wrap64 (Int.tmod (IntKind.u64.wrap (a0)) 96)) 10)) : Int).toNat ((wrap64 ((wrap64 (Int.tdiv (wrap64 (Int.tmod (IntKind.u64.wrap (a0)) 96)) 10)) + 1)) : Int).toNat) ++ ((⟨#[48, 49, 50, 51, 52, 53, 54, 55, 56, 57]⟩ : ByteArray).extract ((Int.tmod (wrap64 (Int.tmod (IntKind.u64.wrap (a0)) 96)) 10) : Int).toNat ((wrap64 ((Int.tmod (wrap64 (Int.tmod (IntKind.u64.wrap (a0)) 96)) 10) + 1)) : Int).toNat))) ++ (⟨#[58]⟩ : ByteArray)) ++ (((⟨#[48, 49, 50, 51, 52, 53, 54, 55, 56, 57]⟩ : ByteArray).extract ((wrap64 (Int.tdiv (wrap64 (Int.tmod (IntKind.u64.wrap (a1)) 60)) 10)) : Int).toNat ((wrap64 ((wrap64 (Int.tdiv (wrap64 (Int.tmod (IntKind.u64.wrap (a1)) 60)) 10)) + 1)) : Int).toNat) ++ ((⟨#[48, 49, 50, 51, 52, 53, 54, 55, 56, 57]⟩ : ByteArray).extract ((Int.tmod (wrap64 (Int.tmod (IntKind.u64.wrap (a1)) 60)) 10) : Int).toNat ((wrap64 ((Int.tmod (wrap64 (Int.tmod (IntKind.u64.wrap (a1)) 60)) 10) + 1)) : Int).toNat))) (wrap64 ((wrap64 ((-3600) * (wrap64 (Int.tmod (IntKind.u64.wrap (a0)) 96)))) - (wrap64 (60 * (wrap64 (Int.tmod (IntKind.u64.wrap (a1)) 60)))))) true) else (none)) else (none)) else (none)) else (if (Int.tmod (IntKind.u64.wrap (a3)) 10) = 4 then (solsticelaw04_ClockForms.j0 k (⟨#[45]⟩ : ByteArray) 0 true) else (if (Int.tmod (IntKind.u64.wrap (a3)) 10) = 5 then (if (((⟨#[48, 49, 50, 51, 52, 53, 54, 55, 56, 57]⟩ : ByteArray).extract ((wrap64 (Int.tdiv (wrap64 (Int.tmod (IntKind.u64.wrap (a0)) 96)) 10)) : Int).toNat ((wrap64 ((wrap64 (Int.tdiv (wrap64 (Int.tmod (IntKind.u64.wrap (a0)) 96)) 10)) + 1)) : Int).toNat) ++ ((⟨#[48, 49, 50, 51, 52, 53, 54, 55, 56, 57]⟩ : ByteArray).extract ((Int.tmod (wrap64 (Int.tmod (IntKind.u64.wrap (a0)) 96)) 10) : Int).toNat ((wrap64 ((Int.tmod (wrap64 (Int.tmod (IntKind.u64.wrap (a0)) 96)) 10) + 1)) : Int).toNat)).size + 1 ≤ 9223372036854775807 then (if ((((⟨#[48, 49, 50, 51, 52, 53, 54, 55, 56, 57]⟩ : ByteArray).extract ((wrap64 (Int.tdiv (wrap64 (Int.tmod (IntKind.u64.wrap (a0)) 96)) 10)) : Int).toNat ((wrap64 ((wrap64 (Int.tdiv (wrap64 (Int.tmod (IntKind.u64.wrap (a0)) 96)) 10)) + 1)) : Int).toNat) ++ ((⟨#[48, 49, 50, 51, 52, 53, 54, 55, 56, 57]⟩ : ByteArray).extract ((Int.tmod (wrap64 (Int.tmod (IntKind.u64.wrap (a0)) 96)) 10) : Int).toNat ((wrap64 ((Int.tmod (wrap64 (Int.tmod (IntKind.u64.wrap (a0)) 96)) 10) + 1)) : Int).toNat)) ++ (⟨#[58]⟩ : ByteArray)).size + (((⟨#[48, 49, 50, 51, 52, 53, 54, 55, 56, 57]⟩ : ByteArray).extract ((wrap64 (Int.tdiv (wrap64 (Int.tmod (IntKind.u64.wrap (a1)) 60)) 10)) : Int).toNat ((wrap64 ((wrap64 (Int.tdiv (wrap64 (Int.tmod (IntKind.u64.wrap (a1)) 60)) 10)) + 1)) : Int).toNat) ++ ((⟨#[48, 49, 50, 51, 52, 53, 54, 55, 56, 57]⟩ : ByteArray).extract ((Int.tmod (wrap64 (Int.tmod (IntKind.u64.wrap (a1)) 60)) 10) : Int).toNat ((wrap64 ((Int.tmod (wrap64 (Int.tmod (IntKind.u64.wrap (a1)) 60)) 10) + 1)) : Int).toNat)).size ≤ 9223372036854775807 then (if (((((⟨#[48, 49, 50, 51, 52, 53, 54, 55, 56, 57]⟩ : ByteArray).extract ((wrap64 (Int.tdiv (wrap64 (Int.tmod (IntKind.u64.wrap (a0)) 96)) 10)) : Int).toNat ((wrap64 ((wrap64 (Int.tdiv (wrap64 (Int.tmod (IntKind.u64.wrap (a0)) 96)) 10)) + 1)) : Int).toNat) ++ ((⟨#[48, 49, 50, 51, 52, 53, 54, 55, 56, 57]⟩ : ByteArray).extract ((Int.tmod (wrap64 (Int.tmod (IntKind.u64.wrap (a0)) 96)) 10) : Int).toNat ((wrap64 ((Int.tmod (wrap64 (Int.tmod (IntKind.u64.wrap (a0)) 96)) 10) + 1)) : Int).toNat)) ++ (⟨#[58]⟩ : ByteArray)) ++ (((⟨#[48, 49, 50, 51, 52, 53, 54, 55, 56, 57]⟩ : ByteArray).extract ((wrap64 (Int.tdiv (wrap64 (Int.tmod (IntKind.u64.wrap (a1)) 60)) 10)) : Int).toNat ((wrap64 ((wrap64 (Int.tdiv (wrap64 (Int.tmod (IntKind.u64.wrap (a1)) 60)) 10)) + 1)) : Int).toNat) ++ ((⟨#[48, 49, 50, 51, 52, 53, 54, 55, 56, 57]⟩ : ByteArray).extract ((Int.tmod (wrap64 (Int.tmod (IntKind.u64.wrap (a1)) 60)) 10) : Int).toNat ((wrap64 ((Int.tmod (wrap64 (Int.tmod (IntKind.u64.wrap (a1)) 60)) 10) + 1)) : Int).toNat))).size + 1 ≤ 9223372036854775807 then (if ((((((⟨#[48, 49, 50, 51, 52, 53, 54, 55, 56, 57]⟩ : ByteArray).extract ((wrap64 (Int.tdiv (wrap64 (Int.tmod (IntKind.u64.wrap (a0)) 96)) 10)) : Int).toNat ((wrap64 ((wrap64 (Int.tdiv (wrap64 (Int.tmod (IntKind.u64.wrap (a0)) 96)) 10)) + 1)) : Int).toNat) ++ ((⟨#[48, 49, 50, 51, 52, 53, 54, 55, 56, 57]⟩ : ByteArray).extract ((Int.tmod (wrap64 (Int.tmod (IntKind.u64.wrap (a0)) 96)) 10) : Int).toNat ((wrap64 ((Int.tmod (wrap64 (Int.tmod (IntKind.u64.wrap (a0)) 96)) 10) + 1)) : Int).toNat)) ++ (⟨#[58]⟩ : ByteArray)) ++ (((⟨#[48, 49, 50, 51, 52, 53, 54, 55, 56, 57]⟩ : ByteArray).extract ((wrap64 (Int.tdiv (wrap64 (Int.tmod (IntKind.u64.wrap (a1)) 60)) 10)) : Int).toNat ((wrap64 ((wrap64 (Int.tdiv (wrap64 (Int.tmod (IntKind.u64.wrap (a1)) 60)) 10)) + 1)) : Int).toNat) ++ ((⟨#[48, 49, 50, 51, 52, 53, 54, 55, 56, 57]⟩ : ByteArray).extract ((Int.tmod (wrap64 (Int.tmod (IntKind.u64.wrap (a1)) 60)) 10) : Int).toNat ((wrap64 ((Int.tmod (wrap64 (Int.tmod (IntKind.u64.wrap (a1)) 60)) 10) + 1)) : Int).toNat))) ++ (⟨#[58]⟩ : ByteArray)).size + (((⟨#[48, 49, 50, 51, 52, 53, 54, 55, 56, 57]⟩ : ByteArray).extract ((wrap64 (Int.tdiv (wrap64 (Int.tmod (IntKind.u64.wrap (a2)) 60)) 10)) : Int).toNat ((wrap64 ((wrap64 (Int.tdiv (wrap64 (Int.tmod (IntKind.u64.wrap (a2)) 60)) 10)) + 1)) : Int).toNat) ++ ((⟨#[48, 49, 50, 51, 52, 53, 54, 55, 56, 57]⟩ : ByteArray).extract ((Int.tmod (wrap64 (Int.tmod (IntKind.u64.wrap (a2)) 60)) 10) : Int).toNat ((wrap64 ((Int.tmod (wrap64 (Int.tmod (IntKind.u64.wrap (a2)) 60)) 10) + 1)) : Int).toNat)).size ≤ 9223372036854775807 then (if (((((((⟨#[48, 49, 50, 51, 52, 53, 54, 55, 56, 57]⟩ : ByteArray).extract ((wrap64 (Int.tdiv (wrap64 (Int.tmod (IntKind.u64.wrap (a0)) 96)) 10)) : Int).toNat ((wrap64 ((wrap64 (Int.tdiv (wrap64 (Int.tmod (IntKind.u64.wrap (a0)) 96)) 10)) + 1)) : Int).toNat) ++ ((⟨#[48, 49, 50, 51, 52, 53, 54, 55, 56, 57]⟩ : ByteArray).extract ((Int.tmod (wrap64 (Int.tmod (IntKind.u64.wrap (a0)) 96)) 10) : Int).toNat ((wrap64 ((Int.tmod (wrap64 (Int.tmod (IntKind.u64.wrap (a0)) 96)) 10) + 1)) : Int).toNat)) ++ (⟨#[58]⟩ : ByteArray)) ++ (((⟨#[48, 49, 50, 51, 52, 53, 54, 55, 56, 57]⟩ : ByteArray).extract ((wrap64 (Int.tdiv (wrap64 (Int.tmod (IntKind.u64.wrap (a1)) 60)) 10)) : Int).toNat ((wrap64 ((wrap64 (Int.tdiv (wrap64 (Int.tmod (IntKind.u64.wrap (a1)) 60)) 10)) + 1)) : Int).toNat) ++ ((⟨#[48, 49, 50, 51, 52, 53, 54, 55, 56, 57]⟩ : ByteArray).extract ((Int.tmod (wrap64 (Int.tmod (IntKind.u64.wrap (a1)) 60)) 10) : Int).toNat ((wrap64 ((Int.tmod (wrap64 (Int.tmod (IntKind.u64.wrap (a1)) 60)) 10) + 1)) : Int).toNat))) ++ (⟨#[58]⟩ : ByteArray)) ++ (((⟨#[48, 49, 50, 51, 52, 53, 54, 55, 56, 57]⟩ : ByteArray).extract ((wrap64 (Int.tdiv (wrap64 (Int.tmod (IntKind.u64.wrap (a2)) 60)) 10)) : Int).toNat ((wrap64 ((wrap64 (Int.tdiv (wrap64 (Int.tmod (IntKind.u64.wrap (a2)) 60)) 10)) + 1)) : Int).toNat) ++ ((⟨#[48, 49, 50, 51, 52, 53, 54, 55, 56, 57]⟩ : ByteArray).extract ((Int.tmod (wrap64 (Int.tmod (IntKind.u64.wrap (a2)) 60)) 10) : Int).toNat ((wrap64 ((Int.tmod (wrap64 (Int.tmod (IntKind.u64.wrap (a2)) 60)) 10) + 1)) : Int).toNat))).size + 3 ≤ 9223372036854775807 then (solsticelaw04_ClockForms.j0 k ((((((((⟨#[48, 49, 50, 51, 52, 53, 54, 55, 56, 57]⟩ : ByteArray).extract ((wrap64 (Int.tdiv (wrap64 (Int.tmod (IntKind.u64.wrap (a0)) 96)) 10)) : Int).toNat ((wrap64 ((wrap64 (Int.tdiv (wrap64 (Int.tmod (IntKind.u64.wrap (a0)) 96)) 10)) + 1)) : Int).toNat) ++ ((⟨#[48, 49, 50, 51, 52, 53, 54, 55, 56, 57]⟩ : ByteArray).extract ((Int.tmod (wrap64 (Int.tmod (IntKind.u64.wrap (a0)) 96)) 10) : Int).toNat ((wrap64 ((Int.tmod (wrap64 (Int.tmod (IntKind.u64.wrap (a0)) 96)) 10) + 1)) : Int).toNat)) ++ (⟨#[58]⟩ : ByteArray)) ++ (((⟨#[48, 49, 50, 51, 52, 53, 54, 55, 56, 57]⟩ : ByteArray).extract ((wrap64 (Int.tdiv (wrap64 (Int.tmod (IntKind.u64.wrap (a1)) 60)) 10)) : Int).toNat ((wrap64 ((wrap64 (Int.tdiv (wrap64 (Int.tmod (IntKind.u64.wrap (a1)) 60)) 10)) + 1)) : Int).toNat) ++ ((⟨#[48, 49, 50, 51, 52, 53, 54, 55, 56, 57]⟩ : ByteArray).extract ((Int.tmod (wrap64 (Int.tmod (IntKind.u64.wrap (a1)) 60)) 10) : Int).toNat ((wrap64 ((Int.tmod (wrap64 (Int.tmod (IntKind.u64.wrap (a1)) 60)) 10) + 1)) : Int).toNat))) ++ (⟨#[58]⟩ : ByteArray)) ++ (((⟨#[48, 49, 50, 51, 52, 53, 54, 55, 56, 57]⟩ : ByteArray).extract ((wrap64 (Int.tdiv (wrap64 (Int.tmod (IntKind.u64.wrap (a2)) 60)) 10)) : Int).toNat ((wrap64 ((wrap64 (Int.tdiv (wrap64 (Int.tmod (IntKind.u64.wrap (a2)) 60)) 10)) + 1)) : Int).toNat) ++ ((⟨#[48, 49, 50, 51, 52, 53, 54, 55, 56, 57]⟩ : ByteArray).extract ((Int.tmod (wrap64 (Int.tmod (IntKind.u64.wrap (a2)) 60)) 10) : Int).toNat ((wrap64 ((Int.tmod (wrap64 (Int.tmod (IntKind.u64.wrap (a2)) 60)) 10) + 1)) : Int).toNat))) ++ (⟨#[58, 48, 48]⟩ : ByteArray)) (wrap64 (3600 * (wrap64 (Int.tmod (IntKind.u64.wrap (a0)) 96)))) false) else (none)) else (none)) else (none)) else (none)) else (none)) else (if (Int.tmod (IntKind.u64.wrap (a3)) 10) = 6 then (if (((⟨#[48, 49, 50, 51, 52, 53, 54, 55, 56, 57]⟩ : ByteArray).extract ((wrap64 (Int.tdiv (wrap64 (Int.tmod (IntKind.u64.wrap (a0)) 96)) 10)) : Int).toNat ((wrap64 ((wrap64 (Int.tdiv (wrap64 (Int.tmod (IntKind.u64.wrap (a0)) 96)) 10)) + 1)) : Int).toNat) ++ ((⟨#[48, 49, 50, 51, 52, 53, 54, 55, 56, 57]⟩ : ByteArray).extract ((Int.tmod (wrap64 (Int.tmod (IntKind.u64.wrap (a0)) 96)) 10) : Int).toNat ((wrap64 ((Int.tmod (wrap64 (Int.tmod (IntKind.u64.wrap (a0)) 96)) 10) + 1)) : Int).toNat)).size + 3 ≤ 9223372036854775807 then (solsticelaw04_ClockForms.j0 k ((((⟨#[48, 49, 50, 51, 52, 53, 54, 55, 56, 57]⟩ : ByteArray).extract ((wrap64 (Int.tdiv (wrap64 (Int.tmod (IntKind.u64.wrap (a0)) 96)) 10)) : Int).toNat ((wrap64 ((wrap64 (Int.tdiv (wrap64 (Int.tmod (IntKind.u64.wrap (a0)) 96)) 10)) + 1)) : Int).toNat) ++ ((⟨#[48, 49, 50, 51, 52, 53, 54, 55, 56, 57]⟩ : ByteArray).extract ((Int.tmod (wrap64 (Int.tmod (IntKind.u64.wrap (a0)) 96)) 10) : Int).toNat ((wrap64 ((Int.tmod (wrap64 (Int.tmod (IntKind.u64.wrap (a0)) 96)) 10) + 1)) : Int).toNat)) ++ (⟨#[58, 54, 48]⟩ : ByteArray)) (wrap64 (3600 * (wrap64 (Int.tmod (IntKind.u64.wrap (a0)) 96)))) false) else (none)) else (if (Int.tmod (IntKind.u64.wrap (a3)) 10) = 7 then (if (((⟨#[48, 49, 50, 51, 52, 53, 54, 55, 56, 57]⟩ : ByteArray).extract ((wrap64 (Int.tdiv (wrap64 (Int.tmod (IntKind.u64.wrap (a0)) 96)) 10)) : Int).toNat ((wrap64 ((wrap64 (Int.tdiv (wrap64 (Int.tmod (IntKind.u64.wrap (a0)) 96)) 10)) + 1)) : Int).toNat) ++ ((⟨#[48, 49, 50, 51, 52, 53, 54, 55, 56, 57]⟩ : ByteArray).extract ((Int.tmod (wrap64 (Int.tmod (IntKind.u64.wrap (a0)) 96)) 10) : Int).toNat ((wrap64 ((Int.tmod (wrap64 (Int.tmod (IntKind.u64.wrap (a0)) 96)) 10) + 1)) : Int).toNat)).size + 1 ≤ 9223372036854775807 then (if 1 ≤ ((((⟨#[48, 49, 50, 51, 52, 53, 54, 55, 56, 57]⟩ : ByteArray).extract ((wrap64 (Int.tdiv (wrap64 (Int.tmod (IntKind.u64.wrap (a1)) 60)) 10)) : Int).toNat ((wrap64 ((wrap64 (Int.tdiv (wrap64 (Int.tmod (IntKind.u64.wrap (a1)) 60)) 10)) + 1)) : Int).toNat) ++ ((⟨#[48, 49, 50, 51, 52, 53, 54, 55, 56, 57]⟩ : ByteArray).extract ((Int.tmod (wrap64 (Int.tmod (IntKind.u64.wrap (a1)) 60)) 10) : Int).toNat ((wrap64 ((Int.tmod (wrap64 (Int.tmod (IntKind.u64.wrap (a1)) 60)) 10) + 1)) : Int).toNat)).size : Int) then (if ((((⟨#[48, 49, 50, 51, 52, 53, 54, 55, 56, 57]⟩ : ByteArray).extract ((wrap64 (Int.tdiv (wrap64 (Int.tmod (IntKind.u64.wrap (a0)) 96)) 10)) : Int).toNat ((wrap64 ((wrap64 (Int.tdiv (wrap64 (Int.tmod (IntKind.u64.wrap (a0)) 96)) 10)) + 1)) : Int).toNat) ++ ((⟨#[48, 49, 50, 51, 52, 53, 54, 55, 56, 57]⟩ : ByteArray).extract ((Int.tmod (wrap64 (Int.tmod (IntKind.u64.wrap (a0)) 96)) 10) : Int).toNat ((wrap64 ((Int.tmod (wrap64 (Int.tmod (IntKind.u64.wrap (a0)) 96)) 10) + 1)) : Int).toNat)) ++ (⟨#[58]⟩ : ByteArray)).size + ((((⟨#[48, 49, 50, 51, 52, 53, 54, 55, 56, 57]⟩ : ByteArray).extract ((wrap64 (Int.tdiv (wrap64 (Int.tmod (IntKind.u64.wrap (a1)) 60)) 10)) : Int).toNat ((wrap64 ((wrap64 (Int.tdiv (wrap64 (Int.tmod (IntKind.u64.wrap (a1)) 60)) 10)) + 1)) : Int).toNat) ++ ((⟨#[48, 49, 50, 51, 52, 53, 54, 55, 56, 57]⟩ : ByteArray).extract ((Int.tmod (wrap64 (Int.tmod (IntKind.u64.wrap (a1)) 60)) 10) : Int).toNat ((wrap64 ((Int.tmod (wrap64 (Int.tmod (IntKind.u64.wrap (a1)) 60)) 10) + 1)) : Int).toNat)).extract 1 (((⟨#[48, 49, 50, 51, 52, 53, 54, 55, 56, 57]⟩ : ByteArray).extract ((wrap64 (Int.tdiv (wrap64 (Int.tmod (IntKind.u64.wrap (a1)) 60)) 10)) : Int).toNat ((wrap64 ((wrap64 (Int.tdiv (wrap64 (Int.tmod (IntKind.u64.wrap (a1)) 60)) 10)) + 1)) : Int).toNat) ++ ((⟨#[48, 49, 50, 51, 52, 53, 54, 55, 56, 57]⟩ : ByteArray).extract ((Int.tmod (wrap64 (Int.tmod (IntKind.u64.wrap (a1)) 60)) 10) : Int).toNat ((wrap64 ((Int.tmod (wrap64 (Int.tmod (IntKind.u64.wrap (a1)) 60)) 10) + 1)) : Int).toNat)).size).size ≤ 9223372036854775807 then (solsticelaw04_ClockForms.j0 k (((((⟨#[48, 49, 50, 51, 52, 53, 54, 55, 56, 57]⟩ : ByteArray).extract ((wrap64 (Int.tdiv (wrap64 (Int.tmod (IntKind.u64.wrap (a0)) 96)) 10)) : Int).toNat ((wrap64 ((wrap64 (Int.tdiv (wrap64 (Int.tmod (IntKind.u64.wrap (a0)) 96)) 10)) + 1)) : Int).toNat) ++ ((⟨#[48, 49, 50, 51, 52, 53, 54, 55, 56, 57]⟩ : ByteArray).extract ((Int.tmod (wrap64 (Int.tmod (IntKind.u64.wrap (a0)) 96)) 10) : Int).toNat ((wrap64 ((Int.tmod (wrap64 (Int.tmod (IntKind.u64.wrap (a0)) 96)) 10) + 1)) : Int).toNat)) ++ (⟨#[58]⟩ : ByteArray)) ++ ((((⟨#[48, 49, 50, 51, 52, 53, 54, 55, 56, 57]⟩ : ByteArray).extract ((wrap64 (Int.tdiv (wrap64 (Int.tmod (IntKind.u64.wrap (a1)) 60)) 10)) : Int).toNat ((wrap64 ((wrap64 (Int.tdiv (wrap64 (Int.tmod (IntKind.u64.wrap (a1)) 60)) 10)) + 1)) : Int).toNat) ++ ((⟨#[48, 49, 50, 51, 52, 53, 54, 55, 56, 57]⟩ : ByteArray).extract ((Int.tmod (wrap64 (Int.tmod (IntKind.u64.wrap (a1)) 60)) 10) : Int).toNat ((wrap64 ((Int.tmod (wrap64 (Int.tmod (IntKind.u64.wrap (a1)) 60)) 10) + 1)) : Int).toNat)).extract 1 (((⟨#[48, 49, 50, 51, 52, 53, 54, 55, 56, 57]⟩ : ByteArray).extract ((wrap64 (Int.tdiv (wrap64 (Int.tmod (IntKind.u64.wrap (a1)) 60)) 10)) : Int).toNat ((wrap64 ((wrap64 (Int.tdiv (wrap64 (Int.tmod (IntKind.u64.wrap (a1)) 60)) 10)) + 1)) : Int).toNat) ++ ((⟨#[48, 49, 50, 51, 52, 53, 54, 55, 56, 57]⟩ : ByteArray).extract ((Int.tmod (wrap64 (Int.tmod (IntKind.u64.wrap (a1)) 60)) 10) : Int).toNat ((wrap64 ((Int.tmod (wrap64 (Int.tmod (IntKind.u64.wrap (a1)) 60)) 10) + 1)) : Int).toNat)).size)) (wrap64 (3600 * (wrap64 (Int.tmod (IntKind.u64.wrap (a0)) 96)))) false) else (none)) else (none)) else (none)) else (if (Int.tmod (IntKind.u64.wrap (a3)) 10) = 8 then (solsticelaw04_ClockForms.j0 k (⟨#[57, 55]⟩ : ByteArray) (wrap64 (3600 * (wrap64 (Int.tmod (IntKind.u64.wrap (a0)) 96)))) false) else (if (Int.tmod (IntKind.u64.wrap (a3)) 10) = 9 then (if 1 + (((⟨#[48, 49, 50, 51, 52, 53, 54, 55, 56, 57]⟩ : ByteArray).extract ((wrap64 (Int.tdiv (wrap64 (Int.tmod (IntKind.u64.wrap (a0)) 96)) 10)) : Int).toNat ((wrap64 ((wrap64 (Int.tdiv (wrap64 (Int.tmod (IntKind.u64.wrap (a0)) 96)) 10)) + 1)) : Int).toNat) ++ ((⟨#[48, 49, 50, 51, 52, 53, 54, 55, 56, 57]⟩ : ByteArray).extract ((Int.tmod (wrap64 (Int.tmod (IntKind.u64.wrap (a0)) 96)) 10) : Int).toNat ((wrap64 ((Int.tmod (wrap64 (Int.tmod (IntKind.u64.wrap (a0)) 96)) 10) + 1)) : Int).toNat)).size ≤ 9223372036854775807 then (solsticelaw04_ClockForms.j0 k ((⟨#[43]⟩ : ByteArray) ++ (((⟨#[48, 49, 50, 51, 52, 53, 54, 55, 56, 57]⟩ : ByteArray).extract ((wrap64 (Int.tdiv (wrap64 (Int.tmod (IntKind.u64.wrap (a0)) 96)) 10)) : Int).toNat ((wrap64 ((wrap64 (Int.tdiv (wrap64 (Int.tmod (IntKind.u64.wrap (a0)) 96)) 10)) + 1)) : Int).toNat) ++ ((⟨#[48, 49, 50, 51, 52, 53, 54, 55, 56, 57]⟩ : ByteArray).extract ((Int.tmod (wrap64 (Int.tmod (IntKind.u64.wrap (a0)) 96)) 10) : Int).toNat ((wrap64 ((Int.tmod (wrap64 (Int.tmod (IntKind.u64.wrap (a0)) 96)) 10) + 1)) : Int).toNat))) (wrap64 (3600 * (wrap64 (Int.tmod (IntKind.u64.wrap (a0)) 96)))) false) else (none)) else (solsticelaw04_ClockForms.j0 k (((⟨#[48, 49, 50, 51, 52, 53, 54, 55, 56, 57]⟩ : ByteArray).extract ((wrap64 (Int.tdiv (wrap64 (Int.tmod (IntKind.u64.wrap (a0)) 96)) 10)) : Int).toNat ((wrap64 ((wrap64 (Int.tdiv (wrap64 (Int.tmod (IntKind.u64.wrap (a0)) 96)) 10)) + 1)) : Int).toNat) ++ ((⟨#[48, 49, 50, 51, 52, 53, 54, 55, 56, 57]⟩ : ByteArray).extract ((Int.tmod (wrap64 (Int.tmod (IntKind.u64.wrap (a0)) 96)) 10) : Int).toNat ((wrap64 ((Int.tmod (wrap64 (Int.tmod (IntKind.u64.wrap (a0)) 96)) 10) + 1)) : Int).toNat)) (wrap64 (3600 * (wrap64 (Int.tmod (IntKind.u64.wrap (a0)) 96)))) true)))))))))) else (none)) else (none)) else (none)) else (none)) else (none)) else (none)) else (none)) else (none)) else (none)) else (none)) else (none)) else (none)) else (none)) else (none)) else (none)) else (none)) else (none)) else (none)) else (none)) else (none)) else (none)
theorem solsticelaw04_ClockForms.mono_l : ∀ k, (∀ y0 y1 y2, LeO (solsticelaw04_ClockForms.j0 k y0 y1 y2) (solsticelaw04_ClockForms.j0 (k + 1) y0 y1 y2))
 | 0 => fun _ _ _ r h => by simp [solsticelaw04_ClockForms.j0] at h
 | k + 1 => by
  have ih0 := solsticelaw04_ClockForms.mono_l k
  ·intro y0 y1 y2
   unfold solsticelaw04_ClockForms.j0
   repeat' first
   | (with_reducible exact ih0 _ _ _)
   | (with_reducible exact clock_Parse.mono _ _)
   | (with_reducible exact solsticelaw04_wakes.mono _)
   | (with_reducible exact LeO.refl _)
   | (with_reducible exact LeO.none _)
   | (with_reducible refine LeO.ite ?_ ?_)
   | (with_reducible refine LeO.bind ?_ (fun _ => ?_))
   | exact ih0 _ _ _
   | exact clock_Parse.mono _ _
   | exact solsticelaw04_wakes.mono _
   | exact LeO.none _
   | refine LeO.ite ?_ ?_
   | refine LeO.bind ?_ (fun _ => ?_)
theorem solsticelaw04_ClockForms.mono : ∀ a0 a1 a2 a3 k, LeO (solsticelaw04_ClockForms.f k a0 a1 a2 a3) (solsticelaw04_ClockForms.f (k + 1) a0 a1 a2 a3) := by
 intro a0 a1 a2 a3 k
 have ih0 := solsticelaw04_ClockForms.mono_l k
 unfold solsticelaw04_ClockForms.f
 repeat' first
   | (with_reducible exact ih0 _ _ _)
   | (with_reducible exact clock_Parse.mono _ _)
   | (with_reducible exact solsticelaw04_wakes.mono _)
   | (with_reducible exact LeO.refl _)
   | (with_reducible exact LeO.none _)
   | (with_reducible refine LeO.ite ?_ ?_)
   | (with_reducible refine LeO.bind ?_ (fun _ => ?_))
   | exact ih0 _ _ _
   | exact clock_Parse.mono _ _
   | exact solsticelaw04_wakes.mono _
   | exact LeO.none _
   | refine LeO.ite ?_ ?_
   | refine LeO.bind ?_ (fun _ => ?_)
set_option maxHeartbeats 8000000 in
set_option maxRecDepth 100000 in
theorem solsticelaw04_ClockForms.calls (k : Nat) (a0 : Int) (a1 : Int) (a2 : Int) (a3 : Int) (r : Bool) (htrue : r = true) (w : World) (hG : GP w) (h : solsticelaw04_ClockForms.f k a0 a1 a2 a3 = some r) :
  Calls Tryd.prog 11 #[.int .i64 a0, .int .i64 a1, .int .i64 a2, .int .i64 a3] w fun e w' => e = .returned (.bool r) ∧ Below w.heap.size w w' := by
 have HG := Aside0.mk hG
 clear hG
 have HB := Aside0.mk (Below.refl w.heap.size w)
 have H : (if 0 ≤ (wrap64 (Int.tdiv (wrap64 (Int.tmod (IntKind.u64.wrap (a0)) 96)) 10)) then (if (wrap64 (Int.tdiv (wrap64 (Int.tmod (IntKind.u64.wrap (a0)) 96)) 10)) ≤ (wrap64 ((wrap64 (Int.tdiv (wrap64 (Int.tmod (IntKind.u64.wrap (a0)) 96)) 10)) + 1)) then (if (wrap64 ((wrap64 (Int.tdiv (wrap64 (Int.tmod (IntKind.u64.wrap (a0)) 96)) 10)) + 1)) ≤ 10 then (if 0 ≤ (Int.tmod (wrap64 (Int.tmod (IntKind.u64.wrap (a0)) 96)) 10) then (if (Int.tmod (wrap64 (Int.tmod (IntKind.u64.wrap (a0)) 96)) 10) ≤ (wrap64 ((Int.tmod (wrap64 (Int.tmod (IntKind.u64.wrap (a0)) 96)) 10) + 1)) then (if (wrap64 ((Int.tmod (wrap64 (Int.tmod (IntKind.u64.wrap (a0)) 96)) 10) + 1)) ≤ 10 then (if ((⟨#[48, 49, 50, 51, 52, 53, 54, 55, 56, 57]⟩ : ByteArray).extract ((wrap64 (Int.tdiv (wrap64 (Int.tmod (IntKind.u64.wrap (a0)) 96)) 10)) : Int).toNat ((wrap64 ((wrap64 (Int.tdiv (wrap64 (Int.tmod (IntKind.u64.wrap (a0)) 96)) 10)) + 1)) : Int).toNat).size + ((⟨#[48, 49, 50, 51, 52, 53, 54, 55, 56, 57]⟩ : ByteArray).extract ((Int.tmod (wrap64 (Int.tmod (IntKind.u64.wrap (a0)) 96)) 10) : Int).toNat ((wrap64 ((Int.tmod (wrap64 (Int.tmod (IntKind.u64.wrap (a0)) 96)) 10) + 1)) : Int).toNat).size ≤ 9223372036854775807 then (if 0 ≤ (wrap64 (Int.tdiv (wrap64 (Int.tmod (IntKind.u64.wrap (a1)) 60)) 10)) then (if (wrap64 (Int.tdiv (wrap64 (Int.tmod (IntKind.u64.wrap (a1)) 60)) 10)) ≤ (wrap64 ((wrap64 (Int.tdiv (wrap64 (Int.tmod (IntKind.u64.wrap (a1)) 60)) 10)) + 1)) then (if (wrap64 ((wrap64 (Int.tdiv (wrap64 (Int.tmod (IntKind.u64.wrap (a1)) 60)) 10)) + 1)) ≤ 10 then (if 0 ≤ (Int.tmod (wrap64 (Int.tmod (IntKind.u64.wrap (a1)) 60)) 10) then (if (Int.tmod (wrap64 (Int.tmod (IntKind.u64.wrap (a1)) 60)) 10) ≤ (wrap64 ((Int.tmod (wrap64 (Int.tmod (IntKind.u64.wrap (a1)) 60)) 10) + 1)) then (if (wrap64 ((Int.tmod (wrap64 (Int.tmod (IntKind.u64.wrap (a1)) 60)) 10) + 1)) ≤ 10 then (if ((⟨#[48, 49, 50, 51, 52, 53, 54, 55, 56, 57]⟩ : ByteArray).extract ((wrap64 (Int.tdiv (wrap64 (Int.tmod (IntKind.u64.wrap (a1)) 60)) 10)) : Int).toNat ((wrap64 ((wrap64 (Int.tdiv (wrap64 (Int.tmod (IntKind.u64.wrap (a1)) 60)) 10)) + 1)) : Int).toNat).size + ((⟨#[48, 49, 50, 51, 52, 53, 54, 55, 56, 57]⟩ : ByteArray).extract ((Int.tmod (wrap64 (Int.tmod (IntKind.u64.wrap (a1)) 60)) 10) : Int).toNat ((wrap64 ((Int.tmod (wrap64 (Int.tmod (IntKind.u64.wrap (a1)) 60)) 10) + 1)) : Int).toNat).size ≤ 9223372036854775807 then (if 0 ≤ (wrap64 (Int.tdiv (wrap64 (Int.tmod (IntKind.u64.wrap (a2)) 60)) 10)) then (if (wrap64 (Int.tdiv (wrap64 (Int.tmod (IntKind.u64.wrap (a2)) 60)) 10)) ≤ (wrap64 ((wrap64 (Int.tdiv (wrap64 (Int.tmod (IntKind.u64.wrap (a2)) 60)) 10)) + 1)) then (if (wrap64 ((wrap64 (Int.tdiv (wrap64 (Int.tmod (IntKind.u64.wrap (a2)) 60)) 10)) + 1)) ≤ 10 then (if 0 ≤ (Int.tmod (wrap64 (Int.tmod (IntKind.u64.wrap (a2)) 60)) 10) then (if (Int.tmod (wrap64 (Int.tmod (IntKind.u64.wrap (a2)) 60)) 10) ≤ (wrap64 ((Int.tmod (wrap64 (Int.tmod (IntKind.u64.wrap (a2)) 60)) 10) + 1)) then (if (wrap64 ((Int.tmod (wrap64 (Int.tmod (IntKind.u64.wrap (a2)) 60)) 10) + 1)) ≤ 10 then (if ((⟨#[48, 49, 50, 51, 52, 53, 54, 55, 56, 57]⟩ : ByteArray).extract ((wrap64 (Int.tdiv (wrap64 (Int.tmod (IntKind.u64.wrap (a2)) 60)) 10)) : Int).toNat ((wrap64 ((wrap64 (Int.tdiv (wrap64 (Int.tmod (IntKind.u64.wrap (a2)) 60)) 10)) + 1)) : Int).toNat).size + ((⟨#[48, 49, 50, 51, 52, 53, 54, 55, 56, 57]⟩ : ByteArray).extract ((Int.tmod (wrap64 (Int.tmod (IntKind.u64.wrap (a2)) 60)) 10) : Int).toNat ((wrap64 ((Int.tmod (wrap64 (Int.tmod (IntKind.u64.wrap (a2)) 60)) 10) + 1)) : Int).toNat).size ≤ 9223372036854775807 then (if (Int.tmod (IntKind.u64.wrap (a3)) 10) = 1 then (if (((⟨#[48, 49, 50, 51, 52, 53, 54, 55, 56, 57]⟩ : ByteArray).extract ((wrap64 (Int.tdiv (wrap64 (Int.tmod (IntKind.u64.wrap (a0)) 96)) 10)) : Int).toNat ((wrap64 ((wrap64 (Int.tdiv (wrap64 (Int.tmod (IntKind.u64.wrap (a0)) 96)) 10)) + 1)) : Int).toNat) ++ ((⟨#[48, 49, 50, 51, 52, 53, 54, 55, 56, 57]⟩ : ByteArray).extract ((Int.tmod (wrap64 (Int.tmod (IntKind.u64.wrap (a0)) 96)) 10) : Int).toNat ((wrap64 ((Int.tmod (wrap64 (Int.tmod (IntKind.u64.wrap (a0)) 96)) 10) + 1)) : Int).toNat)).size + 1 ≤ 9223372036854775807 then (if ((((⟨#[48, 49, 50, 51, 52, 53, 54, 55, 56, 57]⟩ : ByteArray).extract ((wrap64 (Int.tdiv (wrap64 (Int.tmod (IntKind.u64.wrap (a0)) 96)) 10)) : Int).toNat ((wrap64 ((wrap64 (Int.tdiv (wrap64 (Int.tmod (IntKind.u64.wrap (a0)) 96)) 10)) + 1)) : Int).toNat) ++ ((⟨#[48, 49, 50, 51, 52, 53, 54, 55, 56, 57]⟩ : ByteArray).extract ((Int.tmod (wrap64 (Int.tmod (IntKind.u64.wrap (a0)) 96)) 10) : Int).toNat ((wrap64 ((Int.tmod (wrap64 (Int.tmod (IntKind.u64.wrap (a0)) 96)) 10) + 1)) : Int).toNat)) ++ (⟨#[58]⟩ : ByteArray)).size + (((⟨#[48, 49, 50, 51, 52, 53, 54, 55, 56, 57]⟩ : ByteArray).extract ((wrap64 (Int.tdiv (wrap64 (Int.tmod (IntKind.u64.wrap (a1)) 60)) 10)) : Int).toNat ((wrap64 ((wrap64 (Int.tdiv (wrap64 (Int.tmod (IntKind.u64.wrap (a1)) 60)) 10)) + 1)) : Int).toNat) ++ ((⟨#[48, 49, 50, 51, 52, 53, 54, 55, 56, 57]⟩ : ByteArray).extract ((Int.tmod (wrap64 (Int.tmod (IntKind.u64.wrap (a1)) 60)) 10) : Int).toNat ((wrap64 ((Int.tmod (wrap64 (Int.tmod (IntKind.u64.wrap (a1)) 60)) 10) + 1)) : Int).toNat)).size ≤ 9223372036854775807 then (solsticelaw04_ClockForms.j0 k (((((⟨#[48, 49, 50, 51, 52, 53, 54, 55, 56, 57]⟩ : ByteArray).extract ((wrap64 (Int.tdiv (wrap64 (Int.tmod (IntKind.u64.wrap (a0)) 96)) 10)) : Int).toNat ((wrap64 ((wrap64 (Int.tdiv (wrap64 (Int.tmod (IntKind.u64.wrap (a0)) 96)) 10)) + 1)) : Int).toNat) ++ ((⟨#[48, 49, 50, 51, 52, 53, 54, 55, 56, 57]⟩ : ByteArray).extract ((Int.tmod (wrap64 (Int.tmod (IntKind.u64.wrap (a0)) 96)) 10) : Int).toNat ((wrap64 ((Int.tmod (wrap64 (Int.tmod (IntKind.u64.wrap (a0)) 96)) 10) + 1)) : Int).toNat)) ++ (⟨#[58]⟩ : ByteArray)) ++ (((⟨#[48, 49, 50, 51, 52, 53, 54, 55, 56, 57]⟩ : ByteArray).extract ((wrap64 (Int.tdiv (wrap64 (Int.tmod (IntKind.u64.wrap (a1)) 60)) 10)) : Int).toNat ((wrap64 ((wrap64 (Int.tdiv (wrap64 (Int.tmod (IntKind.u64.wrap (a1)) 60)) 10)) + 1)) : Int).toNat) ++ ((⟨#[48, 49, 50, 51, 52, 53, 54, 55, 56, 57]⟩ : ByteArray).extract ((Int.tmod (wrap64 (Int.tmod (IntKind.u64.wrap (a1)) 60)) 10) : Int).toNat ((wrap64 ((Int.tmod (wrap64 (Int.tmod (IntKind.u64.wrap (a1)) 60)) 10) + 1)) : Int).toNat))) (wrap64 ((wrap64 (3600 * (wrap64 (Int.tmod (IntKind.u64.wrap (a0)) 96)))) + (wrap64 (60 * (wrap64 (Int.tmod (IntKind.u64.wrap (a1)) 60)))))) true) else (none)) else (none)) else (if (Int.tmod (IntKind.u64.wrap (a3)) 10) = 2 then (if (((⟨#[48, 49, 50, 51, 52, 53, 54, 55, 56, 57]⟩ : ByteArray).extract ((wrap64 (Int.tdiv (wrap64 (Int.tmod (IntKind.u64.wrap (a0)) 96)) 10)) : Int).toNat ((wrap64 ((wrap64 (Int.tdiv (wrap64 (Int.tmod (IntKind.u64.wrap (a0)) 96)) 10)) + 1)) : Int).toNat) ++ ((⟨#[48, 49, 50, 51, 52, 53, 54, 55, 56, 57]⟩ : ByteArray).extract ((Int.tmod (wrap64 (Int.tmod (IntKind.u64.wrap (a0)) 96)) 10) : Int).toNat ((wrap64 ((Int.tmod (wrap64 (Int.tmod (IntKind.u64.wrap (a0)) 96)) 10) + 1)) : Int).toNat)).size + 1 ≤ 9223372036854775807 then (if ((((⟨#[48, 49, 50, 51, 52, 53, 54, 55, 56, 57]⟩ : ByteArray).extract ((wrap64 (Int.tdiv (wrap64 (Int.tmod (IntKind.u64.wrap (a0)) 96)) 10)) : Int).toNat ((wrap64 ((wrap64 (Int.tdiv (wrap64 (Int.tmod (IntKind.u64.wrap (a0)) 96)) 10)) + 1)) : Int).toNat) ++ ((⟨#[48, 49, 50, 51, 52, 53, 54, 55, 56, 57]⟩ : ByteArray).extract ((Int.tmod (wrap64 (Int.tmod (IntKind.u64.wrap (a0)) 96)) 10) : Int).toNat ((wrap64 ((Int.tmod (wrap64 (Int.tmod (IntKind.u64.wrap (a0)) 96)) 10) + 1)) : Int).toNat)) ++ (⟨#[58]⟩ : ByteArray)).size + (((⟨#[48, 49, 50, 51, 52, 53, 54, 55, 56, 57]⟩ : ByteArray).extract ((wrap64 (Int.tdiv (wrap64 (Int.tmod (IntKind.u64.wrap (a1)) 60)) 10)) : Int).toNat ((wrap64 ((wrap64 (Int.tdiv (wrap64 (Int.tmod (IntKind.u64.wrap (a1)) 60)) 10)) + 1)) : Int).toNat) ++ ((⟨#[48, 49, 50, 51, 52, 53, 54, 55, 56, 57]⟩ : ByteArray).extract ((Int.tmod (wrap64 (Int.tmod (IntKind.u64.wrap (a1)) 60)) 10) : Int).toNat ((wrap64 ((Int.tmod (wrap64 (Int.tmod (IntKind.u64.wrap (a1)) 60)) 10) + 1)) : Int).toNat)).size ≤ 9223372036854775807 then (if (((((⟨#[48, 49, 50, 51, 52, 53, 54, 55, 56, 57]⟩ : ByteArray).extract ((wrap64 (Int.tdiv (wrap64 (Int.tmod (IntKind.u64.wrap (a0)) 96)) 10)) : Int).toNat ((wrap64 ((wrap64 (Int.tdiv (wrap64 (Int.tmod (IntKind.u64.wrap (a0)) 96)) 10)) + 1)) : Int).toNat) ++ ((⟨#[48, 49, 50, 51, 52, 53, 54, 55, 56, 57]⟩ : ByteArray).extract ((Int.tmod (wrap64 (Int.tmod (IntKind.u64.wrap (a0)) 96)) 10) : Int).toNat ((wrap64 ((Int.tmod (wrap64 (Int.tmod (IntKind.u64.wrap (a0)) 96)) 10) + 1)) : Int).toNat)) ++ (⟨#[58]⟩ : ByteArray)) ++ (((⟨#[48, 49, 50, 51, 52, 53, 54, 55, 56, 57]⟩ : ByteArray).extract ((wrap64 (Int.tdiv (wrap64 (Int.tmod (IntKind.u64.wrap (a1)) 60)) 10)) : Int).toNat ((wrap64 ((wrap64 (Int.tdiv (wrap64 (Int.tmod (IntKind.u64.wrap (a1)) 60)) 10)) + 1)) : Int).toNat) ++ ((⟨#[48, 49, 50, 51, 52, 53, 54, 55, 56, 57]⟩ : ByteArray).extract ((Int.tmod (wrap64 (Int.tmod (IntKind.u64.wrap (a1)) 60)) 10) : Int).toNat ((wrap64 ((Int.tmod (wrap64 (Int.tmod (IntKind.u64.wrap (a1)) 60)) 10) + 1)) : Int).toNat))).size + 1 ≤ 9223372036854775807 then (if ((((((⟨#[48, 49, 50, 51, 52, 53, 54, 55, 56, 57]⟩ : ByteArray).extract ((wrap64 (Int.tdiv (wrap64 (Int.tmod (IntKind.u64.wrap (a0)) 96)) 10)) : Int).toNat ((wrap64 ((wrap64 (Int.tdiv (wrap64 (Int.tmod (IntKind.u64.wrap (a0)) 96)) 10)) + 1)) : Int).toNat) ++ ((⟨#[48, 49, 50, 51, 52, 53, 54, 55, 56, 57]⟩ : ByteArray).extract ((Int.tmod (wrap64 (Int.tmod (IntKind.u64.wrap (a0)) 96)) 10) : Int).toNat ((wrap64 ((Int.tmod (wrap64 (Int.tmod (IntKind.u64.wrap (a0)) 96)) 10) + 1)) : Int).toNat)) ++ (⟨#[58]⟩ : ByteArray)) ++ (((⟨#[48, 49, 50, 51, 52, 53, 54, 55, 56, 57]⟩ : ByteArray).extract ((wrap64 (Int.tdiv (wrap64 (Int.tmod (IntKind.u64.wrap (a1)) 60)) 10)) : Int).toNat ((wrap64 ((wrap64 (Int.tdiv (wrap64 (Int.tmod (IntKind.u64.wrap (a1)) 60)) 10)) + 1)) : Int).toNat) ++ ((⟨#[48, 49, 50, 51, 52, 53, 54, 55, 56, 57]⟩ : ByteArray).extract ((Int.tmod (wrap64 (Int.tmod (IntKind.u64.wrap (a1)) 60)) 10) : Int).toNat ((wrap64 ((Int.tmod (wrap64 (Int.tmod (IntKind.u64.wrap (a1)) 60)) 10) + 1)) : Int).toNat))) ++ (⟨#[58]⟩ : ByteArray)).size + (((⟨#[48, 49, 50, 51, 52, 53, 54, 55, 56, 57]⟩ : ByteArray).extract ((wrap64 (Int.tdiv (wrap64 (Int.tmod (IntKind.u64.wrap (a2)) 60)) 10)) : Int).toNat ((wrap64 ((wrap64 (Int.tdiv (wrap64 (Int.tmod (IntKind.u64.wrap (a2)) 60)) 10)) + 1)) : Int).toNat) ++ ((⟨#[48, 49, 50, 51, 52, 53, 54, 55, 56, 57]⟩ : ByteArray).extract ((Int.tmod (wrap64 (Int.tmod (IntKind.u64.wrap (a2)) 60)) 10) : Int).toNat ((wrap64 ((Int.tmod (wrap64 (Int.tmod (IntKind.u64.wrap (a2)) 60)) 10) + 1)) : Int).toNat)).size ≤ 9223372036854775807 then (solsticelaw04_ClockForms.j0 k (((((((⟨#[48, 49, 50, 51, 52, 53, 54, 55, 56, 57]⟩ : ByteArray).extract ((wrap64 (Int.tdiv (wrap64 (Int.tmod (IntKind.u64.wrap (a0)) 96)) 10)) : Int).toNat ((wrap64 ((wrap64 (Int.tdiv (wrap64 (Int.tmod (IntKind.u64.wrap (a0)) 96)) 10)) + 1)) : Int).toNat) ++ ((⟨#[48, 49, 50, 51, 52, 53, 54, 55, 56, 57]⟩ : ByteArray).extract ((Int.tmod (wrap64 (Int.tmod (IntKind.u64.wrap (a0)) 96)) 10) : Int).toNat ((wrap64 ((Int.tmod (wrap64 (Int.tmod (IntKind.u64.wrap (a0)) 96)) 10) + 1)) : Int).toNat)) ++ (⟨#[58]⟩ : ByteArray)) ++ (((⟨#[48, 49, 50, 51, 52, 53, 54, 55, 56, 57]⟩ : ByteArray).extract ((wrap64 (Int.tdiv (wrap64 (Int.tmod (IntKind.u64.wrap (a1)) 60)) 10)) : Int).toNat ((wrap64 ((wrap64 (Int.tdiv (wrap64 (Int.tmod (IntKind.u64.wrap (a1)) 60)) 10)) + 1)) : Int).toNat) ++ ((⟨#[48, 49, 50, 51, 52, 53, 54, 55, 56, 57]⟩ : ByteArray).extract ((Int.tmod (wrap64 (Int.tmod (IntKind.u64.wrap (a1)) 60)) 10) : Int).toNat ((wrap64 ((Int.tmod (wrap64 (Int.tmod (IntKind.u64.wrap (a1)) 60)) 10) + 1)) : Int).toNat))) ++ (⟨#[58]⟩ : ByteArray)) ++ (((⟨#[48, 49, 50, 51, 52, 53, 54, 55, 56, 57]⟩ : ByteArray).extract ((wrap64 (Int.tdiv (wrap64 (Int.tmod (IntKind.u64.wrap (a2)) 60)) 10)) : Int).toNat ((wrap64 ((wrap64 (Int.tdiv (wrap64 (Int.tmod (IntKind.u64.wrap (a2)) 60)) 10)) + 1)) : Int).toNat) ++ ((⟨#[48, 49, 50, 51, 52, 53, 54, 55, 56, 57]⟩ : ByteArray).extract ((Int.tmod (wrap64 (Int.tmod (IntKind.u64.wrap (a2)) 60)) 10) : Int).toNat ((wrap64 ((Int.tmod (wrap64 (Int.tmod (IntKind.u64.wrap (a2)) 60)) 10) + 1)) : Int).toNat))) (wrap64 ((wrap64 ((wrap64 (3600 * (wrap64 (Int.tmod (IntKind.u64.wrap (a0)) 96)))) + (wrap64 (60 * (wrap64 (Int.tmod (IntKind.u64.wrap (a1)) 60)))))) + (wrap64 (Int.tmod (IntKind.u64.wrap (a2)) 60)))) true) else (none)) else (none)) else (none)) else (none)) else (if (Int.tmod (IntKind.u64.wrap (a3)) 10) = 3 then (if 1 + (((⟨#[48, 49, 50, 51, 52, 53, 54, 55, 56, 57]⟩ : ByteArray).extract ((wrap64 (Int.tdiv (wrap64 (Int.tmod (IntKind.u64.wrap (a0)) 96)) 10)) : Int).toNat ((wrap64 ((wrap64 (Int.tdiv (wrap64 (Int.tmod (IntKind.u64.wrap (a0)) 96)) 10)) + 1)) : Int).toNat) ++ ((⟨#[48, 49, 50, 51, 52, 53, 54, 55, 56, 57]⟩ : ByteArray).extract ((Int.tmod (wrap64 (Int.tmod (IntKind.u64.wrap (a0)) 96)) 10) : Int).toNat ((wrap64 ((Int.tmod (wrap64 (Int.tmod (IntKind.u64.wrap (a0)) 96)) 10) + 1)) : Int).toNat)).size ≤ 9223372036854775807 then (if ((⟨#[45]⟩ : ByteArray) ++ (((⟨#[48, 49, 50, 51, 52, 53, 54, 55, 56, 57]⟩ : ByteArray).extract ((wrap64 (Int.tdiv (wrap64 (Int.tmod (IntKind.u64.wrap (a0)) 96)) 10)) : Int).toNat ((wrap64 ((wrap64 (Int.tdiv (wrap64 (Int.tmod (IntKind.u64.wrap (a0)) 96)) 10)) + 1)) : Int).toNat) ++ ((⟨#[48, 49, 50, 51, 52, 53, 54, 55, 56, 57]⟩ : ByteArray).extract ((Int.tmod (wrap64 (Int.tmod (IntKind.u64.wrap (a0)) 96)) 10) : Int).toNat ((wrap64 ((Int.tmod (wrap64 (Int.tmod (IntKind.u64.wrap (a0)) 96)) 10) + 1)) : Int).toNat))).size + 1 ≤ 9223372036854775807 then (if (((⟨#[45]⟩ : ByteArray) ++ (((⟨#[48, 49, 50, 51, 52, 53, 54, 55, 56, 57]⟩ : ByteArray).extract ((wrap64 (Int.tdiv (wrap64 (Int.tmod (IntKind.u64.wrap (a0)) 96)) 10)) : Int).toNat ((wrap64 ((wrap64 (Int.tdiv (wrap64 (Int.tmod (IntKind.u64.wrap (a0)) 96)) 10)) + 1)) : Int).toNat) ++ ((⟨#[48, 49, 50, 51, 52, 53, 54, 55, 56, 57]⟩ : ByteArray).extract ((Int.tmod (wrap64 (Int.tmod (IntKind.u64.wrap (a0)) 96)) 10) : Int).toNat ((wrap64 ((Int.tmod (wrap64 (Int.tmod (IntKind.u64.wrap (a0)) 96)) 10) + 1)) : Int).toNat))) ++ (⟨#[58]⟩ : ByteArray)).size + (((⟨#[48, 49, 50, 51, 52, 53, 54, 55, 56, 57]⟩ : ByteArray).extract ((wrap64 (Int.tdiv (wrap64 (Int.tmod (IntKind.u64.wrap (a1)) 60)) 10)) : Int).toNat ((wrap64 ((wrap64 (Int.tdiv (wrap64 (Int.tmod (IntKind.u64.wrap (a1)) 60)) 10)) + 1)) : Int).toNat) ++ ((⟨#[48, 49, 50, 51, 52, 53, 54, 55, 56, 57]⟩ : ByteArray).extract ((Int.tmod (wrap64 (Int.tmod (IntKind.u64.wrap (a1)) 60)) 10) : Int).toNat ((wrap64 ((Int.tmod (wrap64 (Int.tmod (IntKind.u64.wrap (a1)) 60)) 10) + 1)) : Int).toNat)).size ≤ 9223372036854775807 then (solsticelaw04_ClockForms.j0 k ((((⟨#[45]⟩ : ByteArray) ++ (((⟨#[48, 49, 50, 51, 52, 53, 54, 55, 56, 57]⟩ : ByteArray).extract ((wrap64 (Int.tdiv (wrap64 (Int.tmod (IntKind.u64.wrap (a0)) 96)) 10)) : Int).toNat ((wrap64 ((wrap64 (Int.tdiv (wrap64 (Int.tmod (IntKind.u64.wrap (a0)) 96)) 10)) + 1)) : Int).toNat) ++ ((⟨#[48, 49, 50, 51, 52, 53, 54, 55, 56, 57]⟩ : ByteArray).extract ((Int.tmod (wrap64 (Int.tmod (IntKind.u64.wrap (a0)) 96)) 10) : Int).toNat ((wrap64 ((Int.tmod (wrap64 (Int.tmod (IntKind.u64.wrap (a0)) 96)) 10) + 1)) : Int).toNat))) ++ (⟨#[58]⟩ : ByteArray)) ++ (((⟨#[48, 49, 50, 51, 52, 53, 54, 55, 56, 57]⟩ : ByteArray).extract ((wrap64 (Int.tdiv (wrap64 (Int.tmod (IntKind.u64.wrap (a1)) 60)) 10)) : Int).toNat ((wrap64 ((wrap64 (Int.tdiv (wrap64 (Int.tmod (IntKind.u64.wrap (a1)) 60)) 10)) + 1)) : Int).toNat) ++ ((⟨#[48, 49, 50, 51, 52, 53, 54, 55, 56, 57]⟩ : ByteArray).extract ((Int.tmod (wrap64 (Int.tmod (IntKind.u64.wrap (a1)) 60)) 10) : Int).toNat ((wrap64 ((Int.tmod (wrap64 (Int.tmod (IntKind.u64.wrap (a1)) 60)) 10) + 1)) : Int).toNat))) (wrap64 ((wrap64 ((-3600) * (wrap64 (Int.tmod (IntKind.u64.wrap (a0)) 96)))) - (wrap64 (60 * (wrap64 (Int.tmod (IntKind.u64.wrap (a1)) 60)))))) true) else (none)) else (none)) else (none)) else (if (Int.tmod (IntKind.u64.wrap (a3)) 10) = 4 then (solsticelaw04_ClockForms.j0 k (⟨#[45]⟩ : ByteArray) 0 true) else (if (Int.tmod (IntKind.u64.wrap (a3)) 10) = 5 then (if (((⟨#[48, 49, 50, 51, 52, 53, 54, 55, 56, 57]⟩ : ByteArray).extract ((wrap64 (Int.tdiv (wrap64 (Int.tmod (IntKind.u64.wrap (a0)) 96)) 10)) : Int).toNat ((wrap64 ((wrap64 (Int.tdiv (wrap64 (Int.tmod (IntKind.u64.wrap (a0)) 96)) 10)) + 1)) : Int).toNat) ++ ((⟨#[48, 49, 50, 51, 52, 53, 54, 55, 56, 57]⟩ : ByteArray).extract ((Int.tmod (wrap64 (Int.tmod (IntKind.u64.wrap (a0)) 96)) 10) : Int).toNat ((wrap64 ((Int.tmod (wrap64 (Int.tmod (IntKind.u64.wrap (a0)) 96)) 10) + 1)) : Int).toNat)).size + 1 ≤ 9223372036854775807 then (if ((((⟨#[48, 49, 50, 51, 52, 53, 54, 55, 56, 57]⟩ : ByteArray).extract ((wrap64 (Int.tdiv (wrap64 (Int.tmod (IntKind.u64.wrap (a0)) 96)) 10)) : Int).toNat ((wrap64 ((wrap64 (Int.tdiv (wrap64 (Int.tmod (IntKind.u64.wrap (a0)) 96)) 10)) + 1)) : Int).toNat) ++ ((⟨#[48, 49, 50, 51, 52, 53, 54, 55, 56, 57]⟩ : ByteArray).extract ((Int.tmod (wrap64 (Int.tmod (IntKind.u64.wrap (a0)) 96)) 10) : Int).toNat ((wrap64 ((Int.tmod (wrap64 (Int.tmod (IntKind.u64.wrap (a0)) 96)) 10) + 1)) : Int).toNat)) ++ (⟨#[58]⟩ : ByteArray)).size + (((⟨#[48, 49, 50, 51, 52, 53, 54, 55, 56, 57]⟩ : ByteArray).extract ((wrap64 (Int.tdiv (wrap64 (Int.tmod (IntKind.u64.wrap (a1)) 60)) 10)) : Int).toNat ((wrap64 ((wrap64 (Int.tdiv (wrap64 (Int.tmod (IntKind.u64.wrap (a1)) 60)) 10)) + 1)) : Int).toNat) ++ ((⟨#[48, 49, 50, 51, 52, 53, 54, 55, 56, 57]⟩ : ByteArray).extract ((Int.tmod (wrap64 (Int.tmod (IntKind.u64.wrap (a1)) 60)) 10) : Int).toNat ((wrap64 ((Int.tmod (wrap64 (Int.tmod (IntKind.u64.wrap (a1)) 60)) 10) + 1)) : Int).toNat)).size ≤ 9223372036854775807 then (if (((((⟨#[48, 49, 50, 51, 52, 53, 54, 55, 56, 57]⟩ : ByteArray).extract ((wrap64 (Int.tdiv (wrap64 (Int.tmod (IntKind.u64.wrap (a0)) 96)) 10)) : Int).toNat ((wrap64 ((wrap64 (Int.tdiv (wrap64 (Int.tmod (IntKind.u64.wrap (a0)) 96)) 10)) + 1)) : Int).toNat) ++ ((⟨#[48, 49, 50, 51, 52, 53, 54, 55, 56, 57]⟩ : ByteArray).extract ((Int.tmod (wrap64 (Int.tmod (IntKind.u64.wrap (a0)) 96)) 10) : Int).toNat ((wrap64 ((Int.tmod (wrap64 (Int.tmod (IntKind.u64.wrap (a0)) 96)) 10) + 1)) : Int).toNat)) ++ (⟨#[58]⟩ : ByteArray)) ++ (((⟨#[48, 49, 50, 51, 52, 53, 54, 55, 56, 57]⟩ : ByteArray).extract ((wrap64 (Int.tdiv (wrap64 (Int.tmod (IntKind.u64.wrap (a1)) 60)) 10)) : Int).toNat ((wrap64 ((wrap64 (Int.tdiv (wrap64 (Int.tmod (IntKind.u64.wrap (a1)) 60)) 10)) + 1)) : Int).toNat) ++ ((⟨#[48, 49, 50, 51, 52, 53, 54, 55, 56, 57]⟩ : ByteArray).extract ((Int.tmod (wrap64 (Int.tmod (IntKind.u64.wrap (a1)) 60)) 10) : Int).toNat ((wrap64 ((Int.tmod (wrap64 (Int.tmod (IntKind.u64.wrap (a1)) 60)) 10) + 1)) : Int).toNat))).size + 1 ≤ 9223372036854775807 then (if ((((((⟨#[48, 49, 50, 51, 52, 53, 54, 55, 56, 57]⟩ : ByteArray).extract ((wrap64 (Int.tdiv (wrap64 (Int.tmod (IntKind.u64.wrap (a0)) 96)) 10)) : Int).toNat ((wrap64 ((wrap64 (Int.tdiv (wrap64 (Int.tmod (IntKind.u64.wrap (a0)) 96)) 10)) + 1)) : Int).toNat) ++ ((⟨#[48, 49, 50, 51, 52, 53, 54, 55, 56, 57]⟩ : ByteArray).extract ((Int.tmod (wrap64 (Int.tmod (IntKind.u64.wrap (a0)) 96)) 10) : Int).toNat ((wrap64 ((Int.tmod (wrap64 (Int.tmod (IntKind.u64.wrap (a0)) 96)) 10) + 1)) : Int).toNat)) ++ (⟨#[58]⟩ : ByteArray)) ++ (((⟨#[48, 49, 50, 51, 52, 53, 54, 55, 56, 57]⟩ : ByteArray).extract ((wrap64 (Int.tdiv (wrap64 (Int.tmod (IntKind.u64.wrap (a1)) 60)) 10)) : Int).toNat ((wrap64 ((wrap64 (Int.tdiv (wrap64 (Int.tmod (IntKind.u64.wrap (a1)) 60)) 10)) + 1)) : Int).toNat) ++ ((⟨#[48, 49, 50, 51, 52, 53, 54, 55, 56, 57]⟩ : ByteArray).extract ((Int.tmod (wrap64 (Int.tmod (IntKind.u64.wrap (a1)) 60)) 10) : Int).toNat ((wrap64 ((Int.tmod (wrap64 (Int.tmod (IntKind.u64.wrap (a1)) 60)) 10) + 1)) : Int).toNat))) ++ (⟨#[58]⟩ : ByteArray)).size + (((⟨#[48, 49, 50, 51, 52, 53, 54, 55, 56, 57]⟩ : ByteArray).extract ((wrap64 (Int.tdiv (wrap64 (Int.tmod (IntKind.u64.wrap (a2)) 60)) 10)) : Int).toNat ((wrap64 ((wrap64 (Int.tdiv (wrap64 (Int.tmod (IntKind.u64.wrap (a2)) 60)) 10)) + 1)) : Int).toNat) ++ ((⟨#[48, 49, 50, 51, 52, 53, 54, 55, 56, 57]⟩ : ByteArray).extract ((Int.tmod (wrap64 (Int.tmod (IntKind.u64.wrap (a2)) 60)) 10) : Int).toNat ((wrap64 ((Int.tmod (wrap64 (Int.tmod (IntKind.u64.wrap (a2)) 60)) 10) + 1)) : Int).toNat)).size ≤ 9223372036854775807 then (if (((((((⟨#[48, 49, 50, 51, 52, 53, 54, 55, 56, 57]⟩ : ByteArray).extract ((wrap64 (Int.tdiv (wrap64 (Int.tmod (IntKind.u64.wrap (a0)) 96)) 10)) : Int).toNat ((wrap64 ((wrap64 (Int.tdiv (wrap64 (Int.tmod (IntKind.u64.wrap (a0)) 96)) 10)) + 1)) : Int).toNat) ++ ((⟨#[48, 49, 50, 51, 52, 53, 54, 55, 56, 57]⟩ : ByteArray).extract ((Int.tmod (wrap64 (Int.tmod (IntKind.u64.wrap (a0)) 96)) 10) : Int).toNat ((wrap64 ((Int.tmod (wrap64 (Int.tmod (IntKind.u64.wrap (a0)) 96)) 10) + 1)) : Int).toNat)) ++ (⟨#[58]⟩ : ByteArray)) ++ (((⟨#[48, 49, 50, 51, 52, 53, 54, 55, 56, 57]⟩ : ByteArray).extract ((wrap64 (Int.tdiv (wrap64 (Int.tmod (IntKind.u64.wrap (a1)) 60)) 10)) : Int).toNat ((wrap64 ((wrap64 (Int.tdiv (wrap64 (Int.tmod (IntKind.u64.wrap (a1)) 60)) 10)) + 1)) : Int).toNat) ++ ((⟨#[48, 49, 50, 51, 52, 53, 54, 55, 56, 57]⟩ : ByteArray).extract ((Int.tmod (wrap64 (Int.tmod (IntKind.u64.wrap (a1)) 60)) 10) : Int).toNat ((wrap64 ((Int.tmod (wrap64 (Int.tmod (IntKind.u64.wrap (a1)) 60)) 10) + 1)) : Int).toNat))) ++ (⟨#[58]⟩ : ByteArray)) ++ (((⟨#[48, 49, 50, 51, 52, 53, 54, 55, 56, 57]⟩ : ByteArray).extract ((wrap64 (Int.tdiv (wrap64 (Int.tmod (IntKind.u64.wrap (a2)) 60)) 10)) : Int).toNat ((wrap64 ((wrap64 (Int.tdiv (wrap64 (Int.tmod (IntKind.u64.wrap (a2)) 60)) 10)) + 1)) : Int).toNat) ++ ((⟨#[48, 49, 50, 51, 52, 53, 54, 55, 56, 57]⟩ : ByteArray).extract ((Int.tmod (wrap64 (Int.tmod (IntKind.u64.wrap (a2)) 60)) 10) : Int).toNat ((wrap64 ((Int.tmod (wrap64 (Int.tmod (IntKind.u64.wrap (a2)) 60)) 10) + 1)) : Int).toNat))).size + 3 ≤ 9223372036854775807 then (solsticelaw04_ClockForms.j0 k ((((((((⟨#[48, 49, 50, 51, 52, 53, 54, 55, 56, 57]⟩ : ByteArray).extract ((wrap64 (Int.tdiv (wrap64 (Int.tmod (IntKind.u64.wrap (a0)) 96)) 10)) : Int).toNat ((wrap64 ((wrap64 (Int.tdiv (wrap64 (Int.tmod (IntKind.u64.wrap (a0)) 96)) 10)) + 1)) : Int).toNat) ++ ((⟨#[48, 49, 50, 51, 52, 53, 54, 55, 56, 57]⟩ : ByteArray).extract ((Int.tmod (wrap64 (Int.tmod (IntKind.u64.wrap (a0)) 96)) 10) : Int).toNat ((wrap64 ((Int.tmod (wrap64 (Int.tmod (IntKind.u64.wrap (a0)) 96)) 10) + 1)) : Int).toNat)) ++ (⟨#[58]⟩ : ByteArray)) ++ (((⟨#[48, 49, 50, 51, 52, 53, 54, 55, 56, 57]⟩ : ByteArray).extract ((wrap64 (Int.tdiv (wrap64 (Int.tmod (IntKind.u64.wrap (a1)) 60)) 10)) : Int).toNat ((wrap64 ((wrap64 (Int.tdiv (wrap64 (Int.tmod (IntKind.u64.wrap (a1)) 60)) 10)) + 1)) : Int).toNat) ++ ((⟨#[48, 49, 50, 51, 52, 53, 54, 55, 56, 57]⟩ : ByteArray).extract ((Int.tmod (wrap64 (Int.tmod (IntKind.u64.wrap (a1)) 60)) 10) : Int).toNat ((wrap64 ((Int.tmod (wrap64 (Int.tmod (IntKind.u64.wrap (a1)) 60)) 10) + 1)) : Int).toNat))) ++ (⟨#[58]⟩ : ByteArray)) ++ (((⟨#[48, 49, 50, 51, 52, 53, 54, 55, 56, 57]⟩ : ByteArray).extract ((wrap64 (Int.tdiv (wrap64 (Int.tmod (IntKind.u64.wrap (a2)) 60)) 10)) : Int).toNat ((wrap64 ((wrap64 (Int.tdiv (wrap64 (Int.tmod (IntKind.u64.wrap (a2)) 60)) 10)) + 1)) : Int).toNat) ++ ((⟨#[48, 49, 50, 51, 52, 53, 54, 55, 56, 57]⟩ : ByteArray).extract ((Int.tmod (wrap64 (Int.tmod (IntKind.u64.wrap (a2)) 60)) 10) : Int).toNat ((wrap64 ((Int.tmod (wrap64 (Int.tmod (IntKind.u64.wrap (a2)) 60)) 10) + 1)) : Int).toNat))) ++ (⟨#[58, 48, 48]⟩ : ByteArray)) (wrap64 (3600 * (wrap64 (Int.tmod (IntKind.u64.wrap (a0)) 96)))) false) else (none)) else (none)) else (none)) else (none)) else (none)) else (if (Int.tmod (IntKind.u64.wrap (a3)) 10) = 6 then (if (((⟨#[48, 49, 50, 51, 52, 53, 54, 55, 56, 57]⟩ : ByteArray).extract ((wrap64 (Int.tdiv (wrap64 (Int.tmod (IntKind.u64.wrap (a0)) 96)) 10)) : Int).toNat ((wrap64 ((wrap64 (Int.tdiv (wrap64 (Int.tmod (IntKind.u64.wrap (a0)) 96)) 10)) + 1)) : Int).toNat) ++ ((⟨#[48, 49, 50, 51, 52, 53, 54, 55, 56, 57]⟩ : ByteArray).extract ((Int.tmod (wrap64 (Int.tmod (IntKind.u64.wrap (a0)) 96)) 10) : Int).toNat ((wrap64 ((Int.tmod (wrap64 (Int.tmod (IntKind.u64.wrap (a0)) 96)) 10) + 1)) : Int).toNat)).size + 3 ≤ 9223372036854775807 then (solsticelaw04_ClockForms.j0 k ((((⟨#[48, 49, 50, 51, 52, 53, 54, 55, 56, 57]⟩ : ByteArray).extract ((wrap64 (Int.tdiv (wrap64 (Int.tmod (IntKind.u64.wrap (a0)) 96)) 10)) : Int).toNat ((wrap64 ((wrap64 (Int.tdiv (wrap64 (Int.tmod (IntKind.u64.wrap (a0)) 96)) 10)) + 1)) : Int).toNat) ++ ((⟨#[48, 49, 50, 51, 52, 53, 54, 55, 56, 57]⟩ : ByteArray).extract ((Int.tmod (wrap64 (Int.tmod (IntKind.u64.wrap (a0)) 96)) 10) : Int).toNat ((wrap64 ((Int.tmod (wrap64 (Int.tmod (IntKind.u64.wrap (a0)) 96)) 10) + 1)) : Int).toNat)) ++ (⟨#[58, 54, 48]⟩ : ByteArray)) (wrap64 (3600 * (wrap64 (Int.tmod (IntKind.u64.wrap (a0)) 96)))) false) else (none)) else (if (Int.tmod (IntKind.u64.wrap (a3)) 10) = 7 then (if (((⟨#[48, 49, 50, 51, 52, 53, 54, 55, 56, 57]⟩ : ByteArray).extract ((wrap64 (Int.tdiv (wrap64 (Int.tmod (IntKind.u64.wrap (a0)) 96)) 10)) : Int).toNat ((wrap64 ((wrap64 (Int.tdiv (wrap64 (Int.tmod (IntKind.u64.wrap (a0)) 96)) 10)) + 1)) : Int).toNat) ++ ((⟨#[48, 49, 50, 51, 52, 53, 54, 55, 56, 57]⟩ : ByteArray).extract ((Int.tmod (wrap64 (Int.tmod (IntKind.u64.wrap (a0)) 96)) 10) : Int).toNat ((wrap64 ((Int.tmod (wrap64 (Int.tmod (IntKind.u64.wrap (a0)) 96)) 10) + 1)) : Int).toNat)).size + 1 ≤ 9223372036854775807 then (if 1 ≤ ((((⟨#[48, 49, 50, 51, 52, 53, 54, 55, 56, 57]⟩ : ByteArray).extract ((wrap64 (Int.tdiv (wrap64 (Int.tmod (IntKind.u64.wrap (a1)) 60)) 10)) : Int).toNat ((wrap64 ((wrap64 (Int.tdiv (wrap64 (Int.tmod (IntKind.u64.wrap (a1)) 60)) 10)) + 1)) : Int).toNat) ++ ((⟨#[48, 49, 50, 51, 52, 53, 54, 55, 56, 57]⟩ : ByteArray).extract ((Int.tmod (wrap64 (Int.tmod (IntKind.u64.wrap (a1)) 60)) 10) : Int).toNat ((wrap64 ((Int.tmod (wrap64 (Int.tmod (IntKind.u64.wrap (a1)) 60)) 10) + 1)) : Int).toNat)).size : Int) then (if ((((⟨#[48, 49, 50, 51, 52, 53, 54, 55, 56, 57]⟩ : ByteArray).extract ((wrap64 (Int.tdiv (wrap64 (Int.tmod (IntKind.u64.wrap (a0)) 96)) 10)) : Int).toNat ((wrap64 ((wrap64 (Int.tdiv (wrap64 (Int.tmod (IntKind.u64.wrap (a0)) 96)) 10)) + 1)) : Int).toNat) ++ ((⟨#[48, 49, 50, 51, 52, 53, 54, 55, 56, 57]⟩ : ByteArray).extract ((Int.tmod (wrap64 (Int.tmod (IntKind.u64.wrap (a0)) 96)) 10) : Int).toNat ((wrap64 ((Int.tmod (wrap64 (Int.tmod (IntKind.u64.wrap (a0)) 96)) 10) + 1)) : Int).toNat)) ++ (⟨#[58]⟩ : ByteArray)).size + ((((⟨#[48, 49, 50, 51, 52, 53, 54, 55, 56, 57]⟩ : ByteArray).extract ((wrap64 (Int.tdiv (wrap64 (Int.tmod (IntKind.u64.wrap (a1)) 60)) 10)) : Int).toNat ((wrap64 ((wrap64 (Int.tdiv (wrap64 (Int.tmod (IntKind.u64.wrap (a1)) 60)) 10)) + 1)) : Int).toNat) ++ ((⟨#[48, 49, 50, 51, 52, 53, 54, 55, 56, 57]⟩ : ByteArray).extract ((Int.tmod (wrap64 (Int.tmod (IntKind.u64.wrap (a1)) 60)) 10) : Int).toNat ((wrap64 ((Int.tmod (wrap64 (Int.tmod (IntKind.u64.wrap (a1)) 60)) 10) + 1)) : Int).toNat)).extract 1 (((⟨#[48, 49, 50, 51, 52, 53, 54, 55, 56, 57]⟩ : ByteArray).extract ((wrap64 (Int.tdiv (wrap64 (Int.tmod (IntKind.u64.wrap (a1)) 60)) 10)) : Int).toNat ((wrap64 ((wrap64 (Int.tdiv (wrap64 (Int.tmod (IntKind.u64.wrap (a1)) 60)) 10)) + 1)) : Int).toNat) ++ ((⟨#[48, 49, 50, 51, 52, 53, 54, 55, 56, 57]⟩ : ByteArray).extract ((Int.tmod (wrap64 (Int.tmod (IntKind.u64.wrap (a1)) 60)) 10) : Int).toNat ((wrap64 ((Int.tmod (wrap64 (Int.tmod (IntKind.u64.wrap (a1)) 60)) 10) + 1)) : Int).toNat)).size).size ≤ 9223372036854775807 then (solsticelaw04_ClockForms.j0 k (((((⟨#[48, 49, 50, 51, 52, 53, 54, 55, 56, 57]⟩ : ByteArray).extract ((wrap64 (Int.tdiv (wrap64 (Int.tmod (IntKind.u64.wrap (a0)) 96)) 10)) : Int).toNat ((wrap64 ((wrap64 (Int.tdiv (wrap64 (Int.tmod (IntKind.u64.wrap (a0)) 96)) 10)) + 1)) : Int).toNat) ++ ((⟨#[48, 49, 50, 51, 52, 53, 54, 55, 56, 57]⟩ : ByteArray).extract ((Int.tmod (wrap64 (Int.tmod (IntKind.u64.wrap (a0)) 96)) 10) : Int).toNat ((wrap64 ((Int.tmod (wrap64 (Int.tmod (IntKind.u64.wrap (a0)) 96)) 10) + 1)) : Int).toNat)) ++ (⟨#[58]⟩ : ByteArray)) ++ ((((⟨#[48, 49, 50, 51, 52, 53, 54, 55, 56, 57]⟩ : ByteArray).extract ((wrap64 (Int.tdiv (wrap64 (Int.tmod (IntKind.u64.wrap (a1)) 60)) 10)) : Int).toNat ((wrap64 ((wrap64 (Int.tdiv (wrap64 (Int.tmod (IntKind.u64.wrap (a1)) 60)) 10)) + 1)) : Int).toNat) ++ ((⟨#[48, 49, 50, 51, 52, 53, 54, 55, 56, 57]⟩ : ByteArray).extract ((Int.tmod (wrap64 (Int.tmod (IntKind.u64.wrap (a1)) 60)) 10) : Int).toNat ((wrap64 ((Int.tmod (wrap64 (Int.tmod (IntKind.u64.wrap (a1)) 60)) 10) + 1)) : Int).toNat)).extract 1 (((⟨#[48, 49, 50, 51, 52, 53, 54, 55, 56, 57]⟩ : ByteArray).extract ((wrap64 (Int.tdiv (wrap64 (Int.tmod (IntKind.u64.wrap (a1)) 60)) 10)) : Int).toNat ((wrap64 ((wrap64 (Int.tdiv (wrap64 (Int.tmod (IntKind.u64.wrap (a1)) 60)) 10)) + 1)) : Int).toNat) ++ ((⟨#[48, 49, 50, 51, 52, 53, 54, 55, 56, 57]⟩ : ByteArray).extract ((Int.tmod (wrap64 (Int.tmod (IntKind.u64.wrap (a1)) 60)) 10) : Int).toNat ((wrap64 ((Int.tmod (wrap64 (Int.tmod (IntKind.u64.wrap (a1)) 60)) 10) + 1)) : Int).toNat)).size)) (wrap64 (3600 * (wrap64 (Int.tmod (IntKind.u64.wrap (a0)) 96)))) false) else (none)) else (none)) else (none)) else (if (Int.tmod (IntKind.u64.wrap (a3)) 10) = 8 then (solsticelaw04_ClockForms.j0 k (⟨#[57, 55]⟩ : ByteArray) (wrap64 (3600 * (wrap64 (Int.tmod (IntKind.u64.wrap (a0)) 96)))) false) else (if (Int.tmod (IntKind.u64.wrap (a3)) 10) = 9 then (if 1 + (((⟨#[48, 49, 50, 51, 52, 53, 54, 55, 56, 57]⟩ : ByteArray).extract ((wrap64 (Int.tdiv (wrap64 (Int.tmod (IntKind.u64.wrap (a0)) 96)) 10)) : Int).toNat ((wrap64 ((wrap64 (Int.tdiv (wrap64 (Int.tmod (IntKind.u64.wrap (a0)) 96)) 10)) + 1)) : Int).toNat) ++ ((⟨#[48, 49, 50, 51, 52, 53, 54, 55, 56, 57]⟩ : ByteArray).extract ((Int.tmod (wrap64 (Int.tmod (IntKind.u64.wrap (a0)) 96)) 10) : Int).toNat ((wrap64 ((Int.tmod (wrap64 (Int.tmod (IntKind.u64.wrap (a0)) 96)) 10) + 1)) : Int).toNat)).size ≤ 9223372036854775807 then (solsticelaw04_ClockForms.j0 k ((⟨#[43]⟩ : ByteArray) ++ (((⟨#[48, 49, 50, 51, 52, 53, 54, 55, 56, 57]⟩ : ByteArray).extract ((wrap64 (Int.tdiv (wrap64 (Int.tmod (IntKind.u64.wrap (a0)) 96)) 10)) : Int).toNat ((wrap64 ((wrap64 (Int.tdiv (wrap64 (Int.tmod (IntKind.u64.wrap (a0)) 96)) 10)) + 1)) : Int).toNat) ++ ((⟨#[48, 49, 50, 51, 52, 53, 54, 55, 56, 57]⟩ : ByteArray).extract ((Int.tmod (wrap64 (Int.tmod (IntKind.u64.wrap (a0)) 96)) 10) : Int).toNat ((wrap64 ((Int.tmod (wrap64 (Int.tmod (IntKind.u64.wrap (a0)) 96)) 10) + 1)) : Int).toNat))) (wrap64 (3600 * (wrap64 (Int.tmod (IntKind.u64.wrap (a0)) 96)))) false) else (none)) else (solsticelaw04_ClockForms.j0 k (((⟨#[48, 49, 50, 51, 52, 53, 54, 55, 56, 57]⟩ : ByteArray).extract ((wrap64 (Int.tdiv (wrap64 (Int.tmod (IntKind.u64.wrap (a0)) 96)) 10)) : Int).toNat ((wrap64 ((wrap64 (Int.tdiv (wrap64 (Int.tmod (IntKind.u64.wrap (a0)) 96)) 10)) + 1)) : Int).toNat) ++ ((⟨#[48, 49, 50, 51, 52, 53, 54, 55, 56, 57]⟩ : ByteArray).extract ((Int.tmod (wrap64 (Int.tmod (IntKind.u64.wrap (a0)) 96)) 10) : Int).toNat ((wrap64 ((Int.tmod (wrap64 (Int.tmod (IntKind.u64.wrap (a0)) 96)) 10) + 1)) : Int).toNat)) (wrap64 (3600 * (wrap64 (Int.tmod (IntKind.u64.wrap (a0)) 96)))) true)))))))))) else (none)) else (none)) else (none)) else (none)) else (none)) else (none)) else (none)) else (none)) else (none)) else (none)) else (none)) else (none)) else (none)) else (none)) else (none)) else (none)) else (none)) else (none)) else (none)) else (none)) else (none)) = some r := h
 clear h
 obtain ⟨ji5, hji5⟩ : ∃ j_ : Int, (wrap64 (Int.tdiv (wrap64 (Int.tmod (IntKind.u64.wrap (a0)) 96)) 10)) = j_ := ⟨_, rfl⟩
 first | rw [hji5] at H | simp only [hji5] at H
 have hji5w : (IntKind.i64.wrap (Int.tdiv (wrap64 (Int.tmod (IntKind.u64.wrap (a0)) 96)) 10)) = ji5 := (i64_w _).trans hji5
 by_cases c6 : 0 ≤ (ji5)
 ·rw [if_pos c6] at H
  have c6b0 := eq_true c6
  have c6b1 : decide (0 ≤ (ji5)) = true := decide_eq_true c6
  clear c6
  by_cases c7 : (ji5) ≤ (wrap64 ((ji5) + 1))
  ·rw [if_pos c7] at H
   have c7b0 := eq_true c7
   have c7b1 : decide ((ji5) ≤ (wrap64 ((ji5) + 1))) = true := decide_eq_true c7
   by_cases c8 : (wrap64 ((ji5) + 1)) ≤ 10
   ·rw [if_pos c8] at H
    have c8b0 := eq_true c8
    have c8b1 : decide ((wrap64 ((ji5) + 1)) ≤ 10) = true := decide_eq_true c8
    obtain ⟨ji9, hji9⟩ : ∃ j_ : Int, (Int.tmod (wrap64 (Int.tmod (IntKind.u64.wrap (a0)) 96)) 10) = j_ := ⟨_, rfl⟩
    first | rw [hji9] at H | simp only [hji9] at H
    by_cases c10 : 0 ≤ (ji9)
    ·rw [if_pos c10] at H
     have c10b0 := eq_true c10
     have c10b1 : decide (0 ≤ (ji9)) = true := decide_eq_true c10
     clear c10
     by_cases c11 : (ji9) ≤ (wrap64 ((ji9) + 1))
     ·rw [if_pos c11] at H
      have c11b0 := eq_true c11
      have c11b1 : decide ((ji9) ≤ (wrap64 ((ji9) + 1))) = true := decide_eq_true c11
      by_cases c12 : (wrap64 ((ji9) + 1)) ≤ 10
      ·rw [if_pos c12] at H
       have c12b0 := eq_true c12
       have c12b1 : decide ((wrap64 ((ji9) + 1)) ≤ 10) = true := decide_eq_true c12
       by_cases c13 : ((⟨#[48, 49, 50, 51, 52, 53, 54, 55, 56, 57]⟩ : ByteArray).extract ((ji5) : Int).toNat ((wrap64 ((ji5) + 1)) : Int).toNat).size + ((⟨#[48, 49, 50, 51, 52, 53, 54, 55, 56, 57]⟩ : ByteArray).extract ((ji9) : Int).toNat ((wrap64 ((ji9) + 1)) : Int).toNat).size ≤ 9223372036854775807
       ·rw [if_pos c13] at H
        have c13b0 := eq_true c13
        have c13b1 : decide (((⟨#[48, 49, 50, 51, 52, 53, 54, 55, 56, 57]⟩ : ByteArray).extract ((ji5) : Int).toNat ((wrap64 ((ji5) + 1)) : Int).toNat).size + ((⟨#[48, 49, 50, 51, 52, 53, 54, 55, 56, 57]⟩ : ByteArray).extract ((ji9) : Int).toNat ((wrap64 ((ji9) + 1)) : Int).toNat).size ≤ 9223372036854775807) = true := decide_eq_true c13
        try have c13b3 : (9223372036854775807 < ((⟨#[48, 49, 50, 51, 52, 53, 54, 55, 56, 57]⟩ : ByteArray).extract ((ji5) : Int).toNat ((wrap64 ((ji5) + 1)) : Int).toNat).size + ((⟨#[48, 49, 50, 51, 52, 53, 54, 55, 56, 57]⟩ : ByteArray).extract ((ji9) : Int).toNat ((wrap64 ((ji9) + 1)) : Int).toNat).size) = False := eq_false (Nat.not_lt.2 (by have h_ := c13; simp only [ByteArray.size_append, show (⟨#[48, 49, 50, 51, 52, 53, 54, 55, 56, 57]⟩ : ByteArray).size = 10 from rfl] at h_; omega))
        try have c13b5 : (9223372036854775807 < ((⟨#[48, 49, 50, 51, 52, 53, 54, 55, 56, 57]⟩ : ByteArray).extract ((ji5) : Int).toNat ((wrap64 ((ji5) + 1)) : Int).toNat).size + ((⟨#[48, 49, 50, 51, 52, 53, 54, 55, 56, 57]⟩ : ByteArray).extract ((ji9) : Int).toNat ((wrap64 ((ji9) + 1)) : Int).toNat).size) = False := eq_false (Nat.not_lt.2 (by have h_ := c13; simp only [ByteArray.size_append, ByteArray.size_extract, show (⟨#[48, 49, 50, 51, 52, 53, 54, 55, 56, 57]⟩ : ByteArray).size = 10 from rfl] at h_; simp only [eq_iff_iff, iff_true] at *; omega))
        try have c13b2 : (9223372036854775807 < ((⟨#[48, 49, 50, 51, 52, 53, 54, 55, 56, 57]⟩ : ByteArray).extract ((ji5) : Int).toNat ((wrap64 ((ji5) + 1)) : Int).toNat).size + ((⟨#[48, 49, 50, 51, 52, 53, 54, 55, 56, 57]⟩ : ByteArray).extract ((ji9) : Int).toNat ((wrap64 ((ji9) + 1)) : Int).toNat).size) = False := eq_false (Nat.not_lt.2 c13)
        obtain ⟨sw13, hsw13⟩ : ∃ s_ : ByteArray, (((⟨#[48, 49, 50, 51, 52, 53, 54, 55, 56, 57]⟩ : ByteArray).extract ((ji5) : Int).toNat ((wrap64 ((ji5) + 1)) : Int).toNat) ++ ((⟨#[48, 49, 50, 51, 52, 53, 54, 55, 56, 57]⟩ : ByteArray).extract ((ji9) : Int).toNat ((wrap64 ((ji9) + 1)) : Int).toNat)) = s_ := ⟨_, rfl⟩
        first | rw [hsw13] at H | simp only [hsw13] at H
        obtain ⟨ji14, hji14⟩ : ∃ j_ : Int, (wrap64 (Int.tdiv (wrap64 (Int.tmod (IntKind.u64.wrap (a1)) 60)) 10)) = j_ := ⟨_, rfl⟩
        first | rw [hji14] at H | simp only [hji14] at H
        have hji14w : (IntKind.i64.wrap (Int.tdiv (wrap64 (Int.tmod (IntKind.u64.wrap (a1)) 60)) 10)) = ji14 := (i64_w _).trans hji14
        by_cases c15 : 0 ≤ (ji14)
        ·rw [if_pos c15] at H
         have c15b0 := eq_true c15
         have c15b1 : decide (0 ≤ (ji14)) = true := decide_eq_true c15
         clear c15
         by_cases c16 : (ji14) ≤ (wrap64 ((ji14) + 1))
         ·rw [if_pos c16] at H
          have c16b0 := eq_true c16
          have c16b1 : decide ((ji14) ≤ (wrap64 ((ji14) + 1))) = true := decide_eq_true c16
          by_cases c17 : (wrap64 ((ji14) + 1)) ≤ 10
          ·rw [if_pos c17] at H
           have c17b0 := eq_true c17
           have c17b1 : decide ((wrap64 ((ji14) + 1)) ≤ 10) = true := decide_eq_true c17
           obtain ⟨ji18, hji18⟩ : ∃ j_ : Int, (Int.tmod (wrap64 (Int.tmod (IntKind.u64.wrap (a1)) 60)) 10) = j_ := ⟨_, rfl⟩
           first | rw [hji18] at H | simp only [hji18] at H
           by_cases c19 : 0 ≤ (ji18)
           ·rw [if_pos c19] at H
            have c19b0 := eq_true c19
            have c19b1 : decide (0 ≤ (ji18)) = true := decide_eq_true c19
            clear c19
            by_cases c20 : (ji18) ≤ (wrap64 ((ji18) + 1))
            ·rw [if_pos c20] at H
             have c20b0 := eq_true c20
             have c20b1 : decide ((ji18) ≤ (wrap64 ((ji18) + 1))) = true := decide_eq_true c20
             by_cases c21 : (wrap64 ((ji18) + 1)) ≤ 10
             ·rw [if_pos c21] at H
              have c21b0 := eq_true c21
              have c21b1 : decide ((wrap64 ((ji18) + 1)) ≤ 10) = true := decide_eq_true c21
              by_cases c22 : ((⟨#[48, 49, 50, 51, 52, 53, 54, 55, 56, 57]⟩ : ByteArray).extract ((ji14) : Int).toNat ((wrap64 ((ji14) + 1)) : Int).toNat).size + ((⟨#[48, 49, 50, 51, 52, 53, 54, 55, 56, 57]⟩ : ByteArray).extract ((ji18) : Int).toNat ((wrap64 ((ji18) + 1)) : Int).toNat).size ≤ 9223372036854775807
              ·rw [if_pos c22] at H
               have c22b0 := eq_true c22
               have c22b1 : decide (((⟨#[48, 49, 50, 51, 52, 53, 54, 55, 56, 57]⟩ : ByteArray).extract ((ji14) : Int).toNat ((wrap64 ((ji14) + 1)) : Int).toNat).size + ((⟨#[48, 49, 50, 51, 52, 53, 54, 55, 56, 57]⟩ : ByteArray).extract ((ji18) : Int).toNat ((wrap64 ((ji18) + 1)) : Int).toNat).size ≤ 9223372036854775807) = true := decide_eq_true c22
               try have c22b3 : (9223372036854775807 < ((⟨#[48, 49, 50, 51, 52, 53, 54, 55, 56, 57]⟩ : ByteArray).extract ((ji14) : Int).toNat ((wrap64 ((ji14) + 1)) : Int).toNat).size + ((⟨#[48, 49, 50, 51, 52, 53, 54, 55, 56, 57]⟩ : ByteArray).extract ((ji18) : Int).toNat ((wrap64 ((ji18) + 1)) : Int).toNat).size) = False := eq_false (Nat.not_lt.2 (by have h_ := c22; simp only [ByteArray.size_append, show (⟨#[48, 49, 50, 51, 52, 53, 54, 55, 56, 57]⟩ : ByteArray).size = 10 from rfl] at h_; omega))
               try have c22b5 : (9223372036854775807 < ((⟨#[48, 49, 50, 51, 52, 53, 54, 55, 56, 57]⟩ : ByteArray).extract ((ji14) : Int).toNat ((wrap64 ((ji14) + 1)) : Int).toNat).size + ((⟨#[48, 49, 50, 51, 52, 53, 54, 55, 56, 57]⟩ : ByteArray).extract ((ji18) : Int).toNat ((wrap64 ((ji18) + 1)) : Int).toNat).size) = False := eq_false (Nat.not_lt.2 (by have h_ := c22; simp only [ByteArray.size_append, ByteArray.size_extract, show (⟨#[48, 49, 50, 51, 52, 53, 54, 55, 56, 57]⟩ : ByteArray).size = 10 from rfl] at h_; simp only [eq_iff_iff, iff_true] at *; omega))
               try have c22b2 : (9223372036854775807 < ((⟨#[48, 49, 50, 51, 52, 53, 54, 55, 56, 57]⟩ : ByteArray).extract ((ji14) : Int).toNat ((wrap64 ((ji14) + 1)) : Int).toNat).size + ((⟨#[48, 49, 50, 51, 52, 53, 54, 55, 56, 57]⟩ : ByteArray).extract ((ji18) : Int).toNat ((wrap64 ((ji18) + 1)) : Int).toNat).size) = False := eq_false (Nat.not_lt.2 c22)
               obtain ⟨sw22, hsw22⟩ : ∃ s_ : ByteArray, (((⟨#[48, 49, 50, 51, 52, 53, 54, 55, 56, 57]⟩ : ByteArray).extract ((ji14) : Int).toNat ((wrap64 ((ji14) + 1)) : Int).toNat) ++ ((⟨#[48, 49, 50, 51, 52, 53, 54, 55, 56, 57]⟩ : ByteArray).extract ((ji18) : Int).toNat ((wrap64 ((ji18) + 1)) : Int).toNat)) = s_ := ⟨_, rfl⟩
               first | rw [hsw22] at H | simp only [hsw22] at H
               obtain ⟨ji23, hji23⟩ : ∃ j_ : Int, (wrap64 (Int.tdiv (wrap64 (Int.tmod (IntKind.u64.wrap (a2)) 60)) 10)) = j_ := ⟨_, rfl⟩
               first | rw [hji23] at H | simp only [hji23] at H
               have hji23w : (IntKind.i64.wrap (Int.tdiv (wrap64 (Int.tmod (IntKind.u64.wrap (a2)) 60)) 10)) = ji23 := (i64_w _).trans hji23
               by_cases c24 : 0 ≤ (ji23)
               ·rw [if_pos c24] at H
                have c24b0 := eq_true c24
                have c24b1 : decide (0 ≤ (ji23)) = true := decide_eq_true c24
                clear c24
                by_cases c25 : (ji23) ≤ (wrap64 ((ji23) + 1))
                ·rw [if_pos c25] at H
                 have c25b0 := eq_true c25
                 have c25b1 : decide ((ji23) ≤ (wrap64 ((ji23) + 1))) = true := decide_eq_true c25
                 by_cases c26 : (wrap64 ((ji23) + 1)) ≤ 10
                 ·rw [if_pos c26] at H
                  have c26b0 := eq_true c26
                  have c26b1 : decide ((wrap64 ((ji23) + 1)) ≤ 10) = true := decide_eq_true c26
                  obtain ⟨ji27, hji27⟩ : ∃ j_ : Int, (Int.tmod (wrap64 (Int.tmod (IntKind.u64.wrap (a2)) 60)) 10) = j_ := ⟨_, rfl⟩
                  first | rw [hji27] at H | simp only [hji27] at H
                  by_cases c28 : 0 ≤ (ji27)
                  ·rw [if_pos c28] at H
                   have c28b0 := eq_true c28
                   have c28b1 : decide (0 ≤ (ji27)) = true := decide_eq_true c28
                   clear c28
                   by_cases c29 : (ji27) ≤ (wrap64 ((ji27) + 1))
                   ·rw [if_pos c29] at H
                    have c29b0 := eq_true c29
                    have c29b1 : decide ((ji27) ≤ (wrap64 ((ji27) + 1))) = true := decide_eq_true c29
                    by_cases c30 : (wrap64 ((ji27) + 1)) ≤ 10
                    ·rw [if_pos c30] at H
                     have c30b0 := eq_true c30
                     have c30b1 : decide ((wrap64 ((ji27) + 1)) ≤ 10) = true := decide_eq_true c30
                     by_cases c31 : ((⟨#[48, 49, 50, 51, 52, 53, 54, 55, 56, 57]⟩ : ByteArray).extract ((ji23) : Int).toNat ((wrap64 ((ji23) + 1)) : Int).toNat).size + ((⟨#[48, 49, 50, 51, 52, 53, 54, 55, 56, 57]⟩ : ByteArray).extract ((ji27) : Int).toNat ((wrap64 ((ji27) + 1)) : Int).toNat).size ≤ 9223372036854775807
                     ·rw [if_pos c31] at H
                      have c31b0 := eq_true c31
                      have c31b1 : decide (((⟨#[48, 49, 50, 51, 52, 53, 54, 55, 56, 57]⟩ : ByteArray).extract ((ji23) : Int).toNat ((wrap64 ((ji23) + 1)) : Int).toNat).size + ((⟨#[48, 49, 50, 51, 52, 53, 54, 55, 56, 57]⟩ : ByteArray).extract ((ji27) : Int).toNat ((wrap64 ((ji27) + 1)) : Int).toNat).size ≤ 9223372036854775807) = true := decide_eq_true c31
                      try have c31b3 : (9223372036854775807 < ((⟨#[48, 49, 50, 51, 52, 53, 54, 55, 56, 57]⟩ : ByteArray).extract ((ji23) : Int).toNat ((wrap64 ((ji23) + 1)) : Int).toNat).size + ((⟨#[48, 49, 50, 51, 52, 53, 54, 55, 56, 57]⟩ : ByteArray).extract ((ji27) : Int).toNat ((wrap64 ((ji27) + 1)) : Int).toNat).size) = False := eq_false (Nat.not_lt.2 (by have h_ := c31; simp only [ByteArray.size_append, show (⟨#[48, 49, 50, 51, 52, 53, 54, 55, 56, 57]⟩ : ByteArray).size = 10 from rfl] at h_; omega))
                      try have c31b5 : (9223372036854775807 < ((⟨#[48, 49, 50, 51, 52, 53, 54, 55, 56, 57]⟩ : ByteArray).extract ((ji23) : Int).toNat ((wrap64 ((ji23) + 1)) : Int).toNat).size + ((⟨#[48, 49, 50, 51, 52, 53, 54, 55, 56, 57]⟩ : ByteArray).extract ((ji27) : Int).toNat ((wrap64 ((ji27) + 1)) : Int).toNat).size) = False := eq_false (Nat.not_lt.2 (by have h_ := c31; simp only [ByteArray.size_append, ByteArray.size_extract, show (⟨#[48, 49, 50, 51, 52, 53, 54, 55, 56, 57]⟩ : ByteArray).size = 10 from rfl] at h_; simp only [eq_iff_iff, iff_true] at *; omega))
                      try have c31b2 : (9223372036854775807 < ((⟨#[48, 49, 50, 51, 52, 53, 54, 55, 56, 57]⟩ : ByteArray).extract ((ji23) : Int).toNat ((wrap64 ((ji23) + 1)) : Int).toNat).size + ((⟨#[48, 49, 50, 51, 52, 53, 54, 55, 56, 57]⟩ : ByteArray).extract ((ji27) : Int).toNat ((wrap64 ((ji27) + 1)) : Int).toNat).size) = False := eq_false (Nat.not_lt.2 c31)
                      obtain ⟨sw31, hsw31⟩ : ∃ s_ : ByteArray, (((⟨#[48, 49, 50, 51, 52, 53, 54, 55, 56, 57]⟩ : ByteArray).extract ((ji23) : Int).toNat ((wrap64 ((ji23) + 1)) : Int).toNat) ++ ((⟨#[48, 49, 50, 51, 52, 53, 54, 55, 56, 57]⟩ : ByteArray).extract ((ji27) : Int).toNat ((wrap64 ((ji27) + 1)) : Int).toNat)) = s_ := ⟨_, rfl⟩
                      first | rw [hsw31] at H | simp only [hsw31] at H
                      have HC32 := Aside0.mk H
                      clear H
                      go_enter Tryd.func11, Tryd.ntmps11
                      go_upto_block 0 with (fail)
                      repeat (go_quiet (fail); go_upto_block 0 with (fail))
                      go_cut [13, 14, 15] (fun v13 v14 v15 wc => ∃ (kq : Nat) (x13_31 : ByteArray) (x14_31 : Int) (x15_31 : Bool), v13 = .string x13_31 ∧ v14 = .int .i64 x14_31 ∧ v15 = .bool x15_31 ∧ Aside0 (solsticelaw04_ClockForms.j0 kq x13_31 x14_31 x15_31 = some r) ∧ Aside0 (kq ≤ k) ∧ Aside0 (Below w.heap.size w wc))
                      case first =>
                       as_aux_lemma =>
                        have H := HC32.out
                        clear HC32
                        by_cases c33 : (Int.tmod (IntKind.u64.wrap (a3)) 10) = 1
                        ·rw [if_pos c33] at H
                         have c33b0 : ((Int.tmod (IntKind.u64.wrap (a3)) 10) == 1) = true := beq_iff_eq.mpr c33
                         have c33b1 : ((Int.tmod (IntKind.u64.wrap (a3)) 10) != 1) = false := bne_eq_false_iff_eq.mpr c33
                         clear c33
                         (first | rw [c33b0] | (simp only [i64_w, i32_w]; rw [c33b0]) | skip)
                         by_cases c34 : sw13.size + 1 ≤ 9223372036854775807
                         ·rw [if_pos c34] at H
                          have c34b0 := eq_true c34
                          have c34b1 : decide (sw13.size + 1 ≤ 9223372036854775807) = true := decide_eq_true c34
                          try have c34b3 : (9223372036854775807 < sw13.size + 1) = False := eq_false (Nat.not_lt.2 (by have h_ := c34; simp only [ByteArray.size_append, show (⟨#[48, 49, 50, 51, 52, 53, 54, 55, 56, 57]⟩ : ByteArray).size = 10 from rfl] at h_; omega))
                          try have c34b2 : (9223372036854775807 < sw13.size + 1) = False := eq_false (Nat.not_lt.2 c34)
                          by_cases c35 : (sw13 ++ (⟨#[58]⟩ : ByteArray)).size + sw22.size ≤ 9223372036854775807
                          ·rw [if_pos c35] at H
                           have c35b0 := eq_true c35
                           have c35b1 : decide ((sw13 ++ (⟨#[58]⟩ : ByteArray)).size + sw22.size ≤ 9223372036854775807) = true := decide_eq_true c35
                           try have c35b3 : (9223372036854775807 < (sw13.size + 1) + sw22.size) = False := eq_false (Nat.not_lt.2 (by have h_ := c35; simp only [ByteArray.size_append, show (⟨#[48, 49, 50, 51, 52, 53, 54, 55, 56, 57]⟩ : ByteArray).size = 10 from rfl, show (⟨#[58]⟩ : ByteArray).size = 1 from rfl] at h_; omega))
                           try have c35b2 : (9223372036854775807 < (sw13 ++ (⟨#[58]⟩ : ByteArray)).size + sw22.size) = False := eq_false (Nat.not_lt.2 c35)
                           have H' := Aside0.mk H
                           clear H
                           go_wp2
                           repeat (go_quiet (fail); try go_wp2)
                           go_meet
                           case rel => exact ⟨_, ((sw13 ++ (⟨#[58]⟩ : ByteArray)) ++ sw22), (wrap64 ((wrap64 (3600 * (wrap64 (Int.tmod (IntKind.u64.wrap (a0)) 96)))) + (wrap64 (60 * (wrap64 (Int.tmod (IntKind.u64.wrap (a1)) 60)))))), (true), (by first | rfl | (simp; done) | (simp only [← hji5, ← hji9, ← hji14, ← hji18] <;> (first | rfl | (simp; done))) | (simp [*]; done)), (by first | rfl | (simp; done) | (simp [*]; done)), (by first | rfl | (simp; done) | (simp [*]; done)), H', ⟨by first | omega | exact Nat.le_refl _⟩, ⟨by repeat (first | (with_reducible first | exact HB.out | apply below_alloc | apply pw_below_drewN | apply below_drew1) | exact HB.out)⟩⟩
                          ·rw [if_neg c35] at H
                           exact absurd H (by simp)
                         ·rw [if_neg c34] at H
                          exact absurd H (by simp)
                        ·rw [if_neg c33] at H
                         have c33b0 : ((Int.tmod (IntKind.u64.wrap (a3)) 10) == 1) = false := beq_eq_false_iff_ne.mpr c33
                         have c33b1 : ((Int.tmod (IntKind.u64.wrap (a3)) 10) != 1) = true := bne_iff_ne.mpr c33
                         (first | rw [c33b0] | (simp only [i64_w, i32_w]; rw [c33b0]) | skip)
                         by_cases c36 : (Int.tmod (IntKind.u64.wrap (a3)) 10) = 2
                         ·rw [if_pos c36] at H
                          have c36b0 : ((Int.tmod (IntKind.u64.wrap (a3)) 10) == 2) = true := beq_iff_eq.mpr c36
                          have c36b1 : ((Int.tmod (IntKind.u64.wrap (a3)) 10) != 2) = false := bne_eq_false_iff_eq.mpr c36
                          clear c36
                          by_cases c37 : sw13.size + 1 ≤ 9223372036854775807
                          ·rw [if_pos c37] at H
                           have c37b0 := eq_true c37
                           have c37b1 : decide (sw13.size + 1 ≤ 9223372036854775807) = true := decide_eq_true c37
                           try have c37b3 : (9223372036854775807 < sw13.size + 1) = False := eq_false (Nat.not_lt.2 (by have h_ := c37; simp only [ByteArray.size_append, show (⟨#[48, 49, 50, 51, 52, 53, 54, 55, 56, 57]⟩ : ByteArray).size = 10 from rfl] at h_; omega))
                           try have c37b2 : (9223372036854775807 < sw13.size + 1) = False := eq_false (Nat.not_lt.2 c37)
                           by_cases c38 : (sw13 ++ (⟨#[58]⟩ : ByteArray)).size + sw22.size ≤ 9223372036854775807
                           ·rw [if_pos c38] at H
                            have c38b0 := eq_true c38
                            have c38b1 : decide ((sw13 ++ (⟨#[58]⟩ : ByteArray)).size + sw22.size ≤ 9223372036854775807) = true := decide_eq_true c38
                            try have c38b3 : (9223372036854775807 < (sw13.size + 1) + sw22.size) = False := eq_false (Nat.not_lt.2 (by have h_ := c38; simp only [ByteArray.size_append, show (⟨#[48, 49, 50, 51, 52, 53, 54, 55, 56, 57]⟩ : ByteArray).size = 10 from rfl, show (⟨#[58]⟩ : ByteArray).size = 1 from rfl] at h_; omega))
                            try have c38b2 : (9223372036854775807 < (sw13 ++ (⟨#[58]⟩ : ByteArray)).size + sw22.size) = False := eq_false (Nat.not_lt.2 c38)
                            by_cases c39 : ((sw13 ++ (⟨#[58]⟩ : ByteArray)) ++ sw22).size + 1 ≤ 9223372036854775807
                            ·rw [if_pos c39] at H
                             have c39b0 := eq_true c39
                             have c39b1 : decide (((sw13 ++ (⟨#[58]⟩ : ByteArray)) ++ sw22).size + 1 ≤ 9223372036854775807) = true := decide_eq_true c39
                             try have c39b3 : (9223372036854775807 < ((sw13.size + 1) + sw22.size) + 1) = False := eq_false (Nat.not_lt.2 (by have h_ := c39; simp only [ByteArray.size_append, show (⟨#[48, 49, 50, 51, 52, 53, 54, 55, 56, 57]⟩ : ByteArray).size = 10 from rfl, show (⟨#[58]⟩ : ByteArray).size = 1 from rfl] at h_; omega))
                             try have c39b2 : (9223372036854775807 < ((sw13 ++ (⟨#[58]⟩ : ByteArray)) ++ sw22).size + 1) = False := eq_false (Nat.not_lt.2 c39)
                             by_cases c40 : (((sw13 ++ (⟨#[58]⟩ : ByteArray)) ++ sw22) ++ (⟨#[58]⟩ : ByteArray)).size + sw31.size ≤ 9223372036854775807
                             ·rw [if_pos c40] at H
                              have c40b0 := eq_true c40
                              have c40b1 : decide ((((sw13 ++ (⟨#[58]⟩ : ByteArray)) ++ sw22) ++ (⟨#[58]⟩ : ByteArray)).size + sw31.size ≤ 9223372036854775807) = true := decide_eq_true c40
                              try have c40b3 : (9223372036854775807 < (((sw13.size + 1) + sw22.size) + 1) + sw31.size) = False := eq_false (Nat.not_lt.2 (by have h_ := c40; simp only [ByteArray.size_append, show (⟨#[48, 49, 50, 51, 52, 53, 54, 55, 56, 57]⟩ : ByteArray).size = 10 from rfl, show (⟨#[58]⟩ : ByteArray).size = 1 from rfl] at h_; omega))
                              try have c40b2 : (9223372036854775807 < (((sw13 ++ (⟨#[58]⟩ : ByteArray)) ++ sw22) ++ (⟨#[58]⟩ : ByteArray)).size + sw31.size) = False := eq_false (Nat.not_lt.2 c40)
                              have H' := Aside0.mk H
                              clear H
                              go_wp2
                              repeat (go_quiet (fail); try go_wp2)
                              go_meet
                              case rel => exact ⟨_, ((((sw13 ++ (⟨#[58]⟩ : ByteArray)) ++ sw22) ++ (⟨#[58]⟩ : ByteArray)) ++ sw31), (wrap64 ((wrap64 ((wrap64 (3600 * (wrap64 (Int.tmod (IntKind.u64.wrap (a0)) 96)))) + (wrap64 (60 * (wrap64 (Int.tmod (IntKind.u64.wrap (a1)) 60)))))) + (wrap64 (Int.tmod (IntKind.u64.wrap (a2)) 60)))), (true), (by first | rfl | (simp; done) | (simp only [← hji5, ← hji9, ← hji14, ← hji18, ← hji23, ← hji27] <;> (first | rfl | (simp; done))) | (simp [*]; done)), (by first | rfl | (simp; done) | (simp [*]; done)), (by first | rfl | (simp; done) | (simp [*]; done)), H', ⟨by first | omega | exact Nat.le_refl _⟩, ⟨by repeat (first | (with_reducible first | exact HB.out | apply below_alloc | apply pw_below_drewN | apply below_drew1) | exact HB.out)⟩⟩
                             ·rw [if_neg c40] at H
                              exact absurd H (by simp)
                            ·rw [if_neg c39] at H
                             exact absurd H (by simp)
                           ·rw [if_neg c38] at H
                            exact absurd H (by simp)
                          ·rw [if_neg c37] at H
                           exact absurd H (by simp)
                         ·rw [if_neg c36] at H
                          have c36b0 : ((Int.tmod (IntKind.u64.wrap (a3)) 10) == 2) = false := beq_eq_false_iff_ne.mpr c36
                          have c36b1 : ((Int.tmod (IntKind.u64.wrap (a3)) 10) != 2) = true := bne_iff_ne.mpr c36
                          by_cases c41 : (Int.tmod (IntKind.u64.wrap (a3)) 10) = 3
                          ·rw [if_pos c41] at H
                           have c41b0 : ((Int.tmod (IntKind.u64.wrap (a3)) 10) == 3) = true := beq_iff_eq.mpr c41
                           have c41b1 : ((Int.tmod (IntKind.u64.wrap (a3)) 10) != 3) = false := bne_eq_false_iff_eq.mpr c41
                           clear c41
                           by_cases c42 : 1 + sw13.size ≤ 9223372036854775807
                           ·rw [if_pos c42] at H
                            have c42b0 := eq_true c42
                            have c42b1 : decide (1 + sw13.size ≤ 9223372036854775807) = true := decide_eq_true c42
                            try have c42b3 : (9223372036854775807 < 1 + sw13.size) = False := eq_false (Nat.not_lt.2 (by have h_ := c42; simp only [ByteArray.size_append, show (⟨#[48, 49, 50, 51, 52, 53, 54, 55, 56, 57]⟩ : ByteArray).size = 10 from rfl] at h_; omega))
                            try have c42b2 : (9223372036854775807 < 1 + sw13.size) = False := eq_false (Nat.not_lt.2 c42)
                            by_cases c43 : ((⟨#[45]⟩ : ByteArray) ++ sw13).size + 1 ≤ 9223372036854775807
                            ·rw [if_pos c43] at H
                             have c43b0 := eq_true c43
                             have c43b1 : decide (((⟨#[45]⟩ : ByteArray) ++ sw13).size + 1 ≤ 9223372036854775807) = true := decide_eq_true c43
                             try have c43b3 : (9223372036854775807 < (1 + sw13.size) + 1) = False := eq_false (Nat.not_lt.2 (by have h_ := c43; simp only [ByteArray.size_append, show (⟨#[45]⟩ : ByteArray).size = 1 from rfl, show (⟨#[48, 49, 50, 51, 52, 53, 54, 55, 56, 57]⟩ : ByteArray).size = 10 from rfl] at h_; omega))
                             try have c43b2 : (9223372036854775807 < ((⟨#[45]⟩ : ByteArray) ++ sw13).size + 1) = False := eq_false (Nat.not_lt.2 c43)
                             by_cases c44 : (((⟨#[45]⟩ : ByteArray) ++ sw13) ++ (⟨#[58]⟩ : ByteArray)).size + sw22.size ≤ 9223372036854775807
                             ·rw [if_pos c44] at H
                              have c44b0 := eq_true c44
                              have c44b1 : decide ((((⟨#[45]⟩ : ByteArray) ++ sw13) ++ (⟨#[58]⟩ : ByteArray)).size + sw22.size ≤ 9223372036854775807) = true := decide_eq_true c44
                              try have c44b3 : (9223372036854775807 < ((1 + sw13.size) + 1) + sw22.size) = False := eq_false (Nat.not_lt.2 (by have h_ := c44; simp only [ByteArray.size_append, show (⟨#[45]⟩ : ByteArray).size = 1 from rfl, show (⟨#[48, 49, 50, 51, 52, 53, 54, 55, 56, 57]⟩ : ByteArray).size = 10 from rfl, show (⟨#[58]⟩ : ByteArray).size = 1 from rfl] at h_; omega))
                              try have c44b2 : (9223372036854775807 < (((⟨#[45]⟩ : ByteArray) ++ sw13) ++ (⟨#[58]⟩ : ByteArray)).size + sw22.size) = False := eq_false (Nat.not_lt.2 c44)
                              have H' := Aside0.mk H
                              clear H
                              go_wp2
                              repeat (go_quiet (fail); try go_wp2)
                              go_meet
                              case rel => exact ⟨_, ((((⟨#[45]⟩ : ByteArray) ++ sw13) ++ (⟨#[58]⟩ : ByteArray)) ++ sw22), (wrap64 ((wrap64 ((-3600) * (wrap64 (Int.tmod (IntKind.u64.wrap (a0)) 96)))) - (wrap64 (60 * (wrap64 (Int.tmod (IntKind.u64.wrap (a1)) 60)))))), (true), (by first | rfl | (simp; done) | (simp only [← hji5, ← hji9, ← hji14, ← hji18] <;> (first | rfl | (simp; done))) | (simp [*]; done)), (by first | rfl | (simp; done) | (simp [*]; done)), (by first | rfl | (simp; done) | (simp [*]; done)), H', ⟨by first | omega | exact Nat.le_refl _⟩, ⟨by repeat (first | (with_reducible first | exact HB.out | apply below_alloc | apply pw_below_drewN | apply below_drew1) | exact HB.out)⟩⟩
                             ·rw [if_neg c44] at H
                              exact absurd H (by simp)
                            ·rw [if_neg c43] at H
                             exact absurd H (by simp)
                           ·rw [if_neg c42] at H
                            exact absurd H (by simp)
                          ·rw [if_neg c41] at H
                           have c41b0 : ((Int.tmod (IntKind.u64.wrap (a3)) 10) == 3) = false := beq_eq_false_iff_ne.mpr c41
                           have c41b1 : ((Int.tmod (IntKind.u64.wrap (a3)) 10) != 3) = true := bne_iff_ne.mpr c41
                           by_cases c45 : (Int.tmod (IntKind.u64.wrap (a3)) 10) = 4
                           ·rw [if_pos c45] at H
                            have c45b0 : ((Int.tmod (IntKind.u64.wrap (a3)) 10) == 4) = true := beq_iff_eq.mpr c45
                            have c45b1 : ((Int.tmod (IntKind.u64.wrap (a3)) 10) != 4) = false := bne_eq_false_iff_eq.mpr c45
                            clear c45
                            have H' := Aside0.mk H
                            clear H
                            go_wp2
                            repeat (go_quiet (fail); try go_wp2)
                            go_meet
                            case rel => exact ⟨_, ((⟨#[45]⟩ : ByteArray)), (0), (true), (by first | rfl | (simp; done) | (simp [*]; done)), (by first | rfl | (simp; done) | (simp [*]; done)), (by first | rfl | (simp; done) | (simp [*]; done)), H', ⟨by first | omega | exact Nat.le_refl _⟩, ⟨by repeat (first | (with_reducible first | exact HB.out | apply below_alloc | apply pw_below_drewN | apply below_drew1) | exact HB.out)⟩⟩
                           ·rw [if_neg c45] at H
                            have c45b0 : ((Int.tmod (IntKind.u64.wrap (a3)) 10) == 4) = false := beq_eq_false_iff_ne.mpr c45
                            have c45b1 : ((Int.tmod (IntKind.u64.wrap (a3)) 10) != 4) = true := bne_iff_ne.mpr c45
                            by_cases c46 : (Int.tmod (IntKind.u64.wrap (a3)) 10) = 5
                            ·rw [if_pos c46] at H
                             have c46b0 : ((Int.tmod (IntKind.u64.wrap (a3)) 10) == 5) = true := beq_iff_eq.mpr c46
                             have c46b1 : ((Int.tmod (IntKind.u64.wrap (a3)) 10) != 5) = false := bne_eq_false_iff_eq.mpr c46
                             clear c46
                             by_cases c47 : sw13.size + 1 ≤ 9223372036854775807
                             ·rw [if_pos c47] at H
                              have c47b0 := eq_true c47
                              have c47b1 : decide (sw13.size + 1 ≤ 9223372036854775807) = true := decide_eq_true c47
                              try have c47b3 : (9223372036854775807 < sw13.size + 1) = False := eq_false (Nat.not_lt.2 (by have h_ := c47; simp only [ByteArray.size_append, show (⟨#[48, 49, 50, 51, 52, 53, 54, 55, 56, 57]⟩ : ByteArray).size = 10 from rfl] at h_; omega))
                              try have c47b2 : (9223372036854775807 < sw13.size + 1) = False := eq_false (Nat.not_lt.2 c47)
                              by_cases c48 : (sw13 ++ (⟨#[58]⟩ : ByteArray)).size + sw22.size ≤ 9223372036854775807
                              ·rw [if_pos c48] at H
                               have c48b0 := eq_true c48
                               have c48b1 : decide ((sw13 ++ (⟨#[58]⟩ : ByteArray)).size + sw22.size ≤ 9223372036854775807) = true := decide_eq_true c48
                               try have c48b3 : (9223372036854775807 < (sw13.size + 1) + sw22.size) = False := eq_false (Nat.not_lt.2 (by have h_ := c48; simp only [ByteArray.size_append, show (⟨#[48, 49, 50, 51, 52, 53, 54, 55, 56, 57]⟩ : ByteArray).size = 10 from rfl, show (⟨#[58]⟩ : ByteArray).size = 1 from rfl] at h_; omega))
                               try have c48b2 : (9223372036854775807 < (sw13 ++ (⟨#[58]⟩ : ByteArray)).size + sw22.size) = False := eq_false (Nat.not_lt.2 c48)
                               by_cases c49 : ((sw13 ++ (⟨#[58]⟩ : ByteArray)) ++ sw22).size + 1 ≤ 9223372036854775807
                               ·rw [if_pos c49] at H
                                have c49b0 := eq_true c49
                                have c49b1 : decide (((sw13 ++ (⟨#[58]⟩ : ByteArray)) ++ sw22).size + 1 ≤ 9223372036854775807) = true := decide_eq_true c49
                                try have c49b3 : (9223372036854775807 < ((sw13.size + 1) + sw22.size) + 1) = False := eq_false (Nat.not_lt.2 (by have h_ := c49; simp only [ByteArray.size_append, show (⟨#[48, 49, 50, 51, 52, 53, 54, 55, 56, 57]⟩ : ByteArray).size = 10 from rfl, show (⟨#[58]⟩ : ByteArray).size = 1 from rfl] at h_; omega))
                                try have c49b2 : (9223372036854775807 < ((sw13 ++ (⟨#[58]⟩ : ByteArray)) ++ sw22).size + 1) = False := eq_false (Nat.not_lt.2 c49)
                                by_cases c50 : (((sw13 ++ (⟨#[58]⟩ : ByteArray)) ++ sw22) ++ (⟨#[58]⟩ : ByteArray)).size + sw31.size ≤ 9223372036854775807
                                ·rw [if_pos c50] at H
                                 have c50b0 := eq_true c50
                                 have c50b1 : decide ((((sw13 ++ (⟨#[58]⟩ : ByteArray)) ++ sw22) ++ (⟨#[58]⟩ : ByteArray)).size + sw31.size ≤ 9223372036854775807) = true := decide_eq_true c50
                                 try have c50b3 : (9223372036854775807 < (((sw13.size + 1) + sw22.size) + 1) + sw31.size) = False := eq_false (Nat.not_lt.2 (by have h_ := c50; simp only [ByteArray.size_append, show (⟨#[48, 49, 50, 51, 52, 53, 54, 55, 56, 57]⟩ : ByteArray).size = 10 from rfl, show (⟨#[58]⟩ : ByteArray).size = 1 from rfl] at h_; omega))
                                 try have c50b2 : (9223372036854775807 < (((sw13 ++ (⟨#[58]⟩ : ByteArray)) ++ sw22) ++ (⟨#[58]⟩ : ByteArray)).size + sw31.size) = False := eq_false (Nat.not_lt.2 c50)
                                 by_cases c51 : ((((sw13 ++ (⟨#[58]⟩ : ByteArray)) ++ sw22) ++ (⟨#[58]⟩ : ByteArray)) ++ sw31).size + 3 ≤ 9223372036854775807
                                 ·rw [if_pos c51] at H
                                  have c51b0 := eq_true c51
                                  have c51b1 : decide (((((sw13 ++ (⟨#[58]⟩ : ByteArray)) ++ sw22) ++ (⟨#[58]⟩ : ByteArray)) ++ sw31).size + 3 ≤ 9223372036854775807) = true := decide_eq_true c51
                                  try have c51b3 : (9223372036854775807 < ((((sw13.size + 1) + sw22.size) + 1) + sw31.size) + 3) = False := eq_false (Nat.not_lt.2 (by have h_ := c51; simp only [ByteArray.size_append, show (⟨#[48, 49, 50, 51, 52, 53, 54, 55, 56, 57]⟩ : ByteArray).size = 10 from rfl, show (⟨#[58]⟩ : ByteArray).size = 1 from rfl] at h_; omega))
                                  try have c51b2 : (9223372036854775807 < ((((sw13 ++ (⟨#[58]⟩ : ByteArray)) ++ sw22) ++ (⟨#[58]⟩ : ByteArray)) ++ sw31).size + 3) = False := eq_false (Nat.not_lt.2 c51)
                                  have H' := Aside0.mk H
                                  clear H
                                  go_wp2
                                  repeat (go_quiet (fail); try go_wp2)
                                  go_meet
                                  case rel => exact ⟨_, (((((sw13 ++ (⟨#[58]⟩ : ByteArray)) ++ sw22) ++ (⟨#[58]⟩ : ByteArray)) ++ sw31) ++ (⟨#[58, 48, 48]⟩ : ByteArray)), (wrap64 (3600 * (wrap64 (Int.tmod (IntKind.u64.wrap (a0)) 96)))), (false), (by first | rfl | (simp; done) | (simp only [← hji5, ← hji9, ← hji14, ← hji18, ← hji23, ← hji27] <;> (first | rfl | (simp; done))) | (simp [*]; done)), (by first | rfl | (simp; done) | (simp [*]; done)), (by first | rfl | (simp; done) | (simp [*]; done)), H', ⟨by first | omega | exact Nat.le_refl _⟩, ⟨by repeat (first | (with_reducible first | exact HB.out | apply below_alloc | apply pw_below_drewN | apply below_drew1) | exact HB.out)⟩⟩
                                 ·rw [if_neg c51] at H
                                  exact absurd H (by simp)
                                ·rw [if_neg c50] at H
                                 exact absurd H (by simp)
                               ·rw [if_neg c49] at H
                                exact absurd H (by simp)
                              ·rw [if_neg c48] at H
                               exact absurd H (by simp)
                             ·rw [if_neg c47] at H
                              exact absurd H (by simp)
                            ·rw [if_neg c46] at H
                             have c46b0 : ((Int.tmod (IntKind.u64.wrap (a3)) 10) == 5) = false := beq_eq_false_iff_ne.mpr c46
                             have c46b1 : ((Int.tmod (IntKind.u64.wrap (a3)) 10) != 5) = true := bne_iff_ne.mpr c46
                             by_cases c52 : (Int.tmod (IntKind.u64.wrap (a3)) 10) = 6
                             ·rw [if_pos c52] at H
                              have c52b0 : ((Int.tmod (IntKind.u64.wrap (a3)) 10) == 6) = true := beq_iff_eq.mpr c52
                              have c52b1 : ((Int.tmod (IntKind.u64.wrap (a3)) 10) != 6) = false := bne_eq_false_iff_eq.mpr c52
                              clear c52
                              by_cases c53 : sw13.size + 3 ≤ 9223372036854775807
                              ·rw [if_pos c53] at H
                               have c53b0 := eq_true c53
                               have c53b1 : decide (sw13.size + 3 ≤ 9223372036854775807) = true := decide_eq_true c53
                               try have c53b3 : (9223372036854775807 < sw13.size + 3) = False := eq_false (Nat.not_lt.2 (by have h_ := c53; simp only [ByteArray.size_append, show (⟨#[48, 49, 50, 51, 52, 53, 54, 55, 56, 57]⟩ : ByteArray).size = 10 from rfl] at h_; omega))
                               try have c53b2 : (9223372036854775807 < sw13.size + 3) = False := eq_false (Nat.not_lt.2 c53)
                               have H' := Aside0.mk H
                               clear H
                               go_wp2
                               repeat (go_quiet (fail); try go_wp2)
                               go_meet
                               case rel => exact ⟨_, (sw13 ++ (⟨#[58, 54, 48]⟩ : ByteArray)), (wrap64 (3600 * (wrap64 (Int.tmod (IntKind.u64.wrap (a0)) 96)))), (false), (by first | rfl | (simp; done) | (simp only [← hji5, ← hji9] <;> (first | rfl | (simp; done))) | (simp [*]; done)), (by first | rfl | (simp; done) | (simp [*]; done)), (by first | rfl | (simp; done) | (simp [*]; done)), H', ⟨by first | omega | exact Nat.le_refl _⟩, ⟨by repeat (first | (with_reducible first | exact HB.out | apply below_alloc | apply pw_below_drewN | apply below_drew1) | exact HB.out)⟩⟩
                              ·rw [if_neg c53] at H
                               exact absurd H (by simp)
                             ·rw [if_neg c52] at H
                              have c52b0 : ((Int.tmod (IntKind.u64.wrap (a3)) 10) == 6) = false := beq_eq_false_iff_ne.mpr c52
                              have c52b1 : ((Int.tmod (IntKind.u64.wrap (a3)) 10) != 6) = true := bne_iff_ne.mpr c52
                              by_cases c54 : (Int.tmod (IntKind.u64.wrap (a3)) 10) = 7
                              ·rw [if_pos c54] at H
                               have c54b0 : ((Int.tmod (IntKind.u64.wrap (a3)) 10) == 7) = true := beq_iff_eq.mpr c54
                               have c54b1 : ((Int.tmod (IntKind.u64.wrap (a3)) 10) != 7) = false := bne_eq_false_iff_eq.mpr c54
                               clear c54
                               by_cases c55 : sw13.size + 1 ≤ 9223372036854775807
                               ·rw [if_pos c55] at H
                                have c55b0 := eq_true c55
                                have c55b1 : decide (sw13.size + 1 ≤ 9223372036854775807) = true := decide_eq_true c55
                                try have c55b3 : (9223372036854775807 < sw13.size + 1) = False := eq_false (Nat.not_lt.2 (by have h_ := c55; simp only [ByteArray.size_append, show (⟨#[48, 49, 50, 51, 52, 53, 54, 55, 56, 57]⟩ : ByteArray).size = 10 from rfl] at h_; omega))
                                try have c55b2 : (9223372036854775807 < sw13.size + 1) = False := eq_false (Nat.not_lt.2 c55)
                                by_cases c56 : 1 ≤ (sw22.size : Int)
                                ·rw [if_pos c56] at H
                                 have c56b0 := eq_true c56
                                 have c56b1 : decide (1 ≤ (sw22.size : Int)) = true := decide_eq_true c56
                                 by_cases c57 : (sw13 ++ (⟨#[58]⟩ : ByteArray)).size + (sw22.extract 1 sw22.size).size ≤ 9223372036854775807
                                 ·rw [if_pos c57] at H
                                  have c57b0 := eq_true c57
                                  have c57b1 : decide ((sw13 ++ (⟨#[58]⟩ : ByteArray)).size + (sw22.extract 1 sw22.size).size ≤ 9223372036854775807) = true := decide_eq_true c57
                                  try have c57b3 : (9223372036854775807 < (sw13.size + 1) + (sw22.extract 1 sw22.size).size) = False := eq_false (Nat.not_lt.2 (by have h_ := c57; simp only [ByteArray.size_append, show (⟨#[48, 49, 50, 51, 52, 53, 54, 55, 56, 57]⟩ : ByteArray).size = 10 from rfl, show (⟨#[58]⟩ : ByteArray).size = 1 from rfl] at h_; omega))
                                  try have c57b5 : (9223372036854775807 < (sw13.size + 1) + (sw22.extract 1 sw22.size).size) = False := eq_false (Nat.not_lt.2 (by have h_ := c57; simp only [ByteArray.size_append, ByteArray.size_extract, show (⟨#[48, 49, 50, 51, 52, 53, 54, 55, 56, 57]⟩ : ByteArray).size = 10 from rfl, show (⟨#[58]⟩ : ByteArray).size = 1 from rfl] at h_; simp only [eq_iff_iff, iff_true] at *; omega))
                                  try have c57b2 : (9223372036854775807 < (sw13 ++ (⟨#[58]⟩ : ByteArray)).size + (sw22.extract 1 sw22.size).size) = False := eq_false (Nat.not_lt.2 c57)
                                  have H' := Aside0.mk H
                                  clear H
                                  go_wp2
                                  repeat (go_quiet (fail); try go_wp2)
                                  go_meet
                                  case rel => exact ⟨_, ((sw13 ++ (⟨#[58]⟩ : ByteArray)) ++ (sw22.extract 1 sw22.size)), (wrap64 (3600 * (wrap64 (Int.tmod (IntKind.u64.wrap (a0)) 96)))), (false), (by first | rfl | (simp; done) | (simp only [← hji5, ← hji9, ← hji14, ← hji18] <;> (first | rfl | (simp; done))) | (simp [*]; done)), (by first | rfl | (simp; done) | (simp [*]; done)), (by first | rfl | (simp; done) | (simp [*]; done)), H', ⟨by first | omega | exact Nat.le_refl _⟩, ⟨by repeat (first | (with_reducible first | exact HB.out | apply below_alloc | apply pw_below_drewN | apply below_drew1) | exact HB.out)⟩⟩
                                 ·rw [if_neg c57] at H
                                  exact absurd H (by simp)
                                ·rw [if_neg c56] at H
                                 exact absurd H (by simp)
                               ·rw [if_neg c55] at H
                                exact absurd H (by simp)
                              ·rw [if_neg c54] at H
                               have c54b0 : ((Int.tmod (IntKind.u64.wrap (a3)) 10) == 7) = false := beq_eq_false_iff_ne.mpr c54
                               have c54b1 : ((Int.tmod (IntKind.u64.wrap (a3)) 10) != 7) = true := bne_iff_ne.mpr c54
                               by_cases c58 : (Int.tmod (IntKind.u64.wrap (a3)) 10) = 8
                               ·rw [if_pos c58] at H
                                have c58b0 : ((Int.tmod (IntKind.u64.wrap (a3)) 10) == 8) = true := beq_iff_eq.mpr c58
                                have c58b1 : ((Int.tmod (IntKind.u64.wrap (a3)) 10) != 8) = false := bne_eq_false_iff_eq.mpr c58
                                clear c58
                                have H' := Aside0.mk H
                                clear H
                                go_wp2
                                repeat (go_quiet (fail); try go_wp2)
                                go_meet
                                case rel => exact ⟨_, ((⟨#[57, 55]⟩ : ByteArray)), (wrap64 (3600 * (wrap64 (Int.tmod (IntKind.u64.wrap (a0)) 96)))), (false), (by first | rfl | (simp; done) | (simp [*]; done)), (by first | rfl | (simp; done) | (simp [*]; done)), (by first | rfl | (simp; done) | (simp [*]; done)), H', ⟨by first | omega | exact Nat.le_refl _⟩, ⟨by repeat (first | (with_reducible first | exact HB.out | apply below_alloc | apply pw_below_drewN | apply below_drew1) | exact HB.out)⟩⟩
                               ·rw [if_neg c58] at H
                                have c58b0 : ((Int.tmod (IntKind.u64.wrap (a3)) 10) == 8) = false := beq_eq_false_iff_ne.mpr c58
                                have c58b1 : ((Int.tmod (IntKind.u64.wrap (a3)) 10) != 8) = true := bne_iff_ne.mpr c58
                                by_cases c59 : (Int.tmod (IntKind.u64.wrap (a3)) 10) = 9
                                ·rw [if_pos c59] at H
                                 have c59b0 : ((Int.tmod (IntKind.u64.wrap (a3)) 10) == 9) = true := beq_iff_eq.mpr c59
                                 have c59b1 : ((Int.tmod (IntKind.u64.wrap (a3)) 10) != 9) = false := bne_eq_false_iff_eq.mpr c59
                                 clear c59
                                 by_cases c60 : 1 + sw13.size ≤ 9223372036854775807
                                 ·rw [if_pos c60] at H
                                  have c60b0 := eq_true c60
                                  have c60b1 : decide (1 + sw13.size ≤ 9223372036854775807) = true := decide_eq_true c60
                                  try have c60b3 : (9223372036854775807 < 1 + sw13.size) = False := eq_false (Nat.not_lt.2 (by have h_ := c60; simp only [ByteArray.size_append, show (⟨#[48, 49, 50, 51, 52, 53, 54, 55, 56, 57]⟩ : ByteArray).size = 10 from rfl] at h_; omega))
                                  try have c60b2 : (9223372036854775807 < 1 + sw13.size) = False := eq_false (Nat.not_lt.2 c60)
                                  have H' := Aside0.mk H
                                  clear H
                                  go_wp2
                                  repeat (go_quiet (fail); try go_wp2)
                                  go_meet
                                  case rel => exact ⟨_, ((⟨#[43]⟩ : ByteArray) ++ sw13), (wrap64 (3600 * (wrap64 (Int.tmod (IntKind.u64.wrap (a0)) 96)))), (false), (by first | rfl | (simp; done) | (simp only [← hji5, ← hji9] <;> (first | rfl | (simp; done))) | (simp [*]; done)), (by first | rfl | (simp; done) | (simp [*]; done)), (by first | rfl | (simp; done) | (simp [*]; done)), H', ⟨by first | omega | exact Nat.le_refl _⟩, ⟨by repeat (first | (with_reducible first | exact HB.out | apply below_alloc | apply pw_below_drewN | apply below_drew1) | exact HB.out)⟩⟩
                                 ·rw [if_neg c60] at H
                                  exact absurd H (by simp)
                                ·rw [if_neg c59] at H
                                 have c59b0 : ((Int.tmod (IntKind.u64.wrap (a3)) 10) == 9) = false := beq_eq_false_iff_ne.mpr c59
                                 have c59b1 : ((Int.tmod (IntKind.u64.wrap (a3)) 10) != 9) = true := bne_iff_ne.mpr c59
                                 have H' := Aside0.mk H
                                 clear H
                                 go_wp2
                                 repeat (go_quiet (fail); try go_wp2)
                                 go_meet
                                 case rel => exact ⟨_, sw13, (wrap64 (3600 * (wrap64 (Int.tmod (IntKind.u64.wrap (a0)) 96)))), (true), (by first | rfl | (simp; done) | (simp only [← hji5, ← hji9] <;> (first | rfl | (simp; done))) | (simp [*]; done)), (by first | rfl | (simp; done) | (simp [*]; done)), (by first | rfl | (simp; done) | (simp [*]; done)), H', ⟨by first | omega | exact Nat.le_refl _⟩, ⟨by repeat (first | (with_reducible first | exact HB.out | apply below_alloc | apply pw_below_drewN | apply below_drew1) | exact HB.out)⟩⟩
                      case rest =>
                       as_aux_lemma =>
                        clear HC32
                        try clear c1
                        try clear c2
                        try clear p2
                        try clear c3
                        try clear c4
                        try clear c5
                        try clear c6
                        try clear c6b0
                        try clear c6b1
                        try clear p6
                        try clear c7
                        try clear c7b0
                        try clear c7b1
                        try clear c8
                        try clear c8b0
                        try clear c8b1
                        try clear c10
                        try clear c10b0
                        try clear c10b1
                        try clear c11
                        try clear c11b0
                        try clear c11b1
                        try clear c12
                        try clear c12b0
                        try clear c12b1
                        try clear c13
                        try clear c13b0
                        try clear c13b1
                        try clear c13b2
                        try clear c15
                        try clear c15b0
                        try clear c15b1
                        try clear c16
                        try clear c16b0
                        try clear c16b1
                        try clear c17
                        try clear c17b0
                        try clear c17b1
                        try clear c19
                        try clear c19b0
                        try clear c19b1
                        try clear c20
                        try clear c20b0
                        try clear c20b1
                        try clear c21
                        try clear c21b0
                        try clear c21b1
                        try clear c22
                        try clear c22b0
                        try clear c22b1
                        try clear c22b2
                        try clear c24
                        try clear c24b0
                        try clear c24b1
                        try clear c25
                        try clear c25b0
                        try clear c25b1
                        try clear c26
                        try clear c26b0
                        try clear c26b1
                        try clear c28
                        try clear c28b0
                        try clear c28b1
                        try clear c29
                        try clear c29b0
                        try clear c29b1
                        try clear c30
                        try clear c30b0
                        try clear c30b1
                        try clear c31
                        try clear c31b0
                        try clear c31b1
                        try clear c31b2
                        try clear c33
                        try clear c33b0
                        try clear c33b1
                        try clear c34
                        try clear c34b0
                        try clear c34b1
                        try clear c34b2
                        try clear c35
                        try clear c35b0
                        try clear c35b1
                        try clear c35b2
                        try clear c36
                        try clear c36b0
                        try clear c36b1
                        try clear c37
                        try clear c37b0
                        try clear c37b1
                        try clear c37b2
                        try clear c38
                        try clear c38b0
                        try clear c38b1
                        try clear c38b2
                        try clear c39
                        try clear c39b0
                        try clear c39b1
                        try clear c39b2
                        try clear c40
                        try clear c40b0
                        try clear c40b1
                        try clear c40b2
                        try clear c41
                        try clear c41b0
                        try clear c41b1
                        try clear c42
                        try clear c42b0
                        try clear c42b1
                        try clear c42b2
                        try clear c43
                        try clear c43b0
                        try clear c43b1
                        try clear c43b2
                        try clear c44
                        try clear c44b0
                        try clear c44b1
                        try clear c44b2
                        try clear c45
                        try clear c45b0
                        try clear c45b1
                        try clear c46
                        try clear c46b0
                        try clear c46b1
                        try clear c47
                        try clear c47b0
                        try clear c47b1
                        try clear c47b2
                        try clear c48
                        try clear c48b0
                        try clear c48b1
                        try clear c48b2
                        try clear c49
                        try clear c49b0
                        try clear c49b1
                        try clear c49b2
                        try clear c50
                        try clear c50b0
                        try clear c50b1
                        try clear c50b2
                        try clear c51
                        try clear c51b0
                        try clear c51b1
                        try clear c51b2
                        try clear c52
                        try clear c52b0
                        try clear c52b1
                        try clear c53
                        try clear c53b0
                        try clear c53b1
                        try clear c53b2
                        try clear c54
                        try clear c54b0
                        try clear c54b1
                        try clear c55
                        try clear c55b0
                        try clear c55b1
                        try clear c55b2
                        try clear c56
                        try clear c56b0
                        try clear c56b1
                        try clear c57
                        try clear c57b0
                        try clear c57b1
                        try clear c57b2
                        try clear c58
                        try clear c58b0
                        try clear c58b1
                        try clear c59
                        try clear c59b0
                        try clear c59b1
                        try clear c60
                        try clear c60b0
                        try clear c60b1
                        try clear c60b2
                        obtain ⟨kq, x13_31, x14_31, x15_31, rfl, rfl, rfl, HA, HJ31, HB⟩ := hcut
                        cases kq with
                        | zero => exact absurd HA.out (by simp [solsticelaw04_ClockForms.j0])
                        | succ kj31 =>
                         have H := HA.out
                         clear HA
                         simp only [solsticelaw04_ClockForms.j0] at H
                         replace H := Option.bind_eq_some_iff.mp H
                         obtain ⟨⟨t127, t128⟩, A610, H⟩ := H
                         replace H : (if x15_31 = true then (if t128 = 0 then (if t127 = x14_31 then ((solsticelaw04_wakes.f kj31).bind fun t129 => (some t129)) else (some false)) else (some false)) else (if t128 = 5 then (if t127 = 0 then ((solsticelaw04_wakes.f kj31).bind fun t130 => (some t130)) else (some false)) else (some false))) = some r := H
                         have A61 := Aside0.mk A610
                         clear A610
                         by_cases c62 : x15_31 = true
                         ·subst c62
                          have H1 : (if t128 = 0 then (if t127 = x14_31 then ((solsticelaw04_wakes.f kj31).bind fun t129 => (some t129)) else (some false)) else (some false)) = some r := by rw [if_pos rfl] at H; exact H
                          clear H
                          have H := H1
                          clear H1
                          by_cases c63 : t128 = 0
                          ·rw [if_pos c63] at H
                           have c63b0 : (t128 == 0) = true := beq_iff_eq.mpr c63
                           have c63b1 : (t128 != 0) = false := bne_eq_false_iff_eq.mpr c63
                           clear c63
                           by_cases c64 : t127 = x14_31
                           ·rw [if_pos c64] at H
                            have c64b0 : (t127 == x14_31) = true := beq_iff_eq.mpr c64
                            have c64b1 : (t127 != x14_31) = false := bne_eq_false_iff_eq.mpr c64
                            clear c64
                            replace H := Option.bind_eq_some_iff.mp H
                            obtain ⟨t129, A650, H⟩ := H
                            replace H : (some t129) = some r := H
                            have A65 := Aside0.mk A650
                            clear A650
                            obtain rfl := Option.some.inj H
                            go_wp2_with (first | (go_at_call 33; (with_reducible refine (clock_Parse.calls kj31 x13_31 t127 t128 _ ?sideG A61.out).mono ?_); (case sideG => first | exact GP_below HG.out (by repeat (first | (with_reducible first | exact HB.out | apply below_alloc | apply pw_below_drewN | apply below_drew1) | exact HB.out)) | repeat (first | exact HG.out | refine GP_alloc ?_ _ | refine GP_drewN ?_ _ | refine GP_drew ?_)); rintro e w66 ⟨rfl, hb⟩; have n0_ := Aside0.mk (below_step (by repeat (first | (with_reducible first | exact HB.out | apply below_alloc | apply pw_below_drewN | apply below_drew1) | exact HB.out)) hb); clear HB; have HB := n0_; clear n0_; (try clear hb); (try clear hb2); (try clear hk); (try clear hi)) | (go_at_call 39; (with_reducible refine (solsticelaw04_wakes.calls kj31  t129 htrue _ ?sideG A65.out).mono ?_); (case sideG => first | exact GP_below HG.out (by repeat (first | (with_reducible first | exact HB.out | apply below_alloc | apply pw_below_drewN | apply below_drew1) | exact HB.out)) | repeat (first | exact HG.out | refine GP_alloc ?_ _ | refine GP_drewN ?_ _ | refine GP_drew ?_)); rintro e w67 ⟨rfl, hb⟩; have n0_ := Aside0.mk (below_step (by repeat (first | (with_reducible first | exact HB.out | apply below_alloc | apply pw_below_drewN | apply below_drew1) | exact HB.out)) hb); clear HB; have HB := n0_; clear n0_; (try clear hb); (try clear hb2); (try clear hk); (try clear hi)))
                            repeat (go_quiet (first | (go_at_call 33; (with_reducible refine (clock_Parse.calls kj31 x13_31 t127 t128 _ ?sideG A61.out).mono ?_); (case sideG => first | exact GP_below HG.out (by repeat (first | (with_reducible first | exact HB.out | apply below_alloc | apply pw_below_drewN | apply below_drew1) | exact HB.out)) | repeat (first | exact HG.out | refine GP_alloc ?_ _ | refine GP_drewN ?_ _ | refine GP_drew ?_)); rintro e w66 ⟨rfl, hb⟩; have n0_ := Aside0.mk (below_step (by repeat (first | (with_reducible first | exact HB.out | apply below_alloc | apply pw_below_drewN | apply below_drew1) | exact HB.out)) hb); clear HB; have HB := n0_; clear n0_; (try clear hb); (try clear hb2); (try clear hk); (try clear hi)) | (go_at_call 39; (with_reducible refine (solsticelaw04_wakes.calls kj31  t129 htrue _ ?sideG A65.out).mono ?_); (case sideG => first | exact GP_below HG.out (by repeat (first | (with_reducible first | exact HB.out | apply below_alloc | apply pw_below_drewN | apply below_drew1) | exact HB.out)) | repeat (first | exact HG.out | refine GP_alloc ?_ _ | refine GP_drewN ?_ _ | refine GP_drew ?_)); rintro e w67 ⟨rfl, hb⟩; have n0_ := Aside0.mk (below_step (by repeat (first | (with_reducible first | exact HB.out | apply below_alloc | apply pw_below_drewN | apply below_drew1) | exact HB.out)) hb); clear HB; have HB := n0_; clear n0_; (try clear hb); (try clear hb2); (try clear hk); (try clear hi))); try go_wp2_with (first | (go_at_call 33; (with_reducible refine (clock_Parse.calls kj31 x13_31 t127 t128 _ ?sideG A61.out).mono ?_); (case sideG => first | exact GP_below HG.out (by repeat (first | (with_reducible first | exact HB.out | apply below_alloc | apply pw_below_drewN | apply below_drew1) | exact HB.out)) | repeat (first | exact HG.out | refine GP_alloc ?_ _ | refine GP_drewN ?_ _ | refine GP_drew ?_)); rintro e w66 ⟨rfl, hb⟩; have n0_ := Aside0.mk (below_step (by repeat (first | (with_reducible first | exact HB.out | apply below_alloc | apply pw_below_drewN | apply below_drew1) | exact HB.out)) hb); clear HB; have HB := n0_; clear n0_; (try clear hb); (try clear hb2); (try clear hk); (try clear hi)) | (go_at_call 39; (with_reducible refine (solsticelaw04_wakes.calls kj31  t129 htrue _ ?sideG A65.out).mono ?_); (case sideG => first | exact GP_below HG.out (by repeat (first | (with_reducible first | exact HB.out | apply below_alloc | apply pw_below_drewN | apply below_drew1) | exact HB.out)) | repeat (first | exact HG.out | refine GP_alloc ?_ _ | refine GP_drewN ?_ _ | refine GP_drew ?_)); rintro e w67 ⟨rfl, hb⟩; have n0_ := Aside0.mk (below_step (by repeat (first | (with_reducible first | exact HB.out | apply below_alloc | apply pw_below_drewN | apply below_drew1) | exact HB.out)) hb); clear HB; have HB := n0_; clear n0_; (try clear hb); (try clear hb2); (try clear hk); (try clear hi))))
                            go_ret
                            exact ⟨by first | rfl | (simp [errW_none, errW_some] <;> rfl) | (simp only [← hji5, ← hji9, ← hji14, ← hji18, ← hji23, ← hji27]; first | rfl | (simp [errW_none, errW_some] <;> rfl)) | (simp [*, errW_none, errW_some] <;> rfl), by repeat (first | (with_reducible first | exact HB.out | apply below_alloc | apply pw_below_drewN | apply below_drew1) | exact HB.out)⟩
                           ·rw [if_neg c64] at H
                            have c64b0 : (t127 == x14_31) = false := beq_eq_false_iff_ne.mpr c64
                            have c64b1 : (t127 != x14_31) = true := bne_iff_ne.mpr c64
                            obtain rfl := Option.some.inj H
                            cases htrue
                          ·rw [if_neg c63] at H
                           have c63b0 : (t128 == 0) = false := beq_eq_false_iff_ne.mpr c63
                           have c63b1 : (t128 != 0) = true := bne_iff_ne.mpr c63
                           obtain rfl := Option.some.inj H
                           cases htrue
                         ·replace c62 := Bool.eq_false_iff.mpr c62
                          subst c62
                          have H1 : (if t128 = 5 then (if t127 = 0 then ((solsticelaw04_wakes.f kj31).bind fun t130 => (some t130)) else (some false)) else (some false)) = some r := by rw [if_neg (show ¬ (false = true) by decide)] at H; exact H
                          clear H
                          have H := H1
                          clear H1
                          by_cases c68 : t128 = 5
                          ·rw [if_pos c68] at H
                           have c68b0 : (t128 == 5) = true := beq_iff_eq.mpr c68
                           have c68b1 : (t128 != 5) = false := bne_eq_false_iff_eq.mpr c68
                           clear c68
                           by_cases c69 : t127 = 0
                           ·rw [if_pos c69] at H
                            have c69b0 : (t127 == 0) = true := beq_iff_eq.mpr c69
                            have c69b1 : (t127 != 0) = false := bne_eq_false_iff_eq.mpr c69
                            clear c69
                            replace H := Option.bind_eq_some_iff.mp H
                            obtain ⟨t130, A700, H⟩ := H
                            replace H : (some t130) = some r := H
                            have A70 := Aside0.mk A700
                            clear A700
                            obtain rfl := Option.some.inj H
                            go_wp2_with (first | (go_at_call 33; (with_reducible refine (clock_Parse.calls kj31 x13_31 t127 t128 _ ?sideG A61.out).mono ?_); (case sideG => first | exact GP_below HG.out (by repeat (first | (with_reducible first | exact HB.out | apply below_alloc | apply pw_below_drewN | apply below_drew1) | exact HB.out)) | repeat (first | exact HG.out | refine GP_alloc ?_ _ | refine GP_drewN ?_ _ | refine GP_drew ?_)); rintro e w71 ⟨rfl, hb⟩; have n0_ := Aside0.mk (below_step (by repeat (first | (with_reducible first | exact HB.out | apply below_alloc | apply pw_below_drewN | apply below_drew1) | exact HB.out)) hb); clear HB; have HB := n0_; clear n0_; (try clear hb); (try clear hb2); (try clear hk); (try clear hi)) | (go_at_call 39; (with_reducible refine (solsticelaw04_wakes.calls kj31  t130 htrue _ ?sideG A70.out).mono ?_); (case sideG => first | exact GP_below HG.out (by repeat (first | (with_reducible first | exact HB.out | apply below_alloc | apply pw_below_drewN | apply below_drew1) | exact HB.out)) | repeat (first | exact HG.out | refine GP_alloc ?_ _ | refine GP_drewN ?_ _ | refine GP_drew ?_)); rintro e w72 ⟨rfl, hb⟩; have n0_ := Aside0.mk (below_step (by repeat (first | (with_reducible first | exact HB.out | apply below_alloc | apply pw_below_drewN | apply below_drew1) | exact HB.out)) hb); clear HB; have HB := n0_; clear n0_; (try clear hb); (try clear hb2); (try clear hk); (try clear hi)))
                            repeat (go_quiet (first | (go_at_call 33; (with_reducible refine (clock_Parse.calls kj31 x13_31 t127 t128 _ ?sideG A61.out).mono ?_); (case sideG => first | exact GP_below HG.out (by repeat (first | (with_reducible first | exact HB.out | apply below_alloc | apply pw_below_drewN | apply below_drew1) | exact HB.out)) | repeat (first | exact HG.out | refine GP_alloc ?_ _ | refine GP_drewN ?_ _ | refine GP_drew ?_)); rintro e w71 ⟨rfl, hb⟩; have n0_ := Aside0.mk (below_step (by repeat (first | (with_reducible first | exact HB.out | apply below_alloc | apply pw_below_drewN | apply below_drew1) | exact HB.out)) hb); clear HB; have HB := n0_; clear n0_; (try clear hb); (try clear hb2); (try clear hk); (try clear hi)) | (go_at_call 39; (with_reducible refine (solsticelaw04_wakes.calls kj31  t130 htrue _ ?sideG A70.out).mono ?_); (case sideG => first | exact GP_below HG.out (by repeat (first | (with_reducible first | exact HB.out | apply below_alloc | apply pw_below_drewN | apply below_drew1) | exact HB.out)) | repeat (first | exact HG.out | refine GP_alloc ?_ _ | refine GP_drewN ?_ _ | refine GP_drew ?_)); rintro e w72 ⟨rfl, hb⟩; have n0_ := Aside0.mk (below_step (by repeat (first | (with_reducible first | exact HB.out | apply below_alloc | apply pw_below_drewN | apply below_drew1) | exact HB.out)) hb); clear HB; have HB := n0_; clear n0_; (try clear hb); (try clear hb2); (try clear hk); (try clear hi))); try go_wp2_with (first | (go_at_call 33; (with_reducible refine (clock_Parse.calls kj31 x13_31 t127 t128 _ ?sideG A61.out).mono ?_); (case sideG => first | exact GP_below HG.out (by repeat (first | (with_reducible first | exact HB.out | apply below_alloc | apply pw_below_drewN | apply below_drew1) | exact HB.out)) | repeat (first | exact HG.out | refine GP_alloc ?_ _ | refine GP_drewN ?_ _ | refine GP_drew ?_)); rintro e w71 ⟨rfl, hb⟩; have n0_ := Aside0.mk (below_step (by repeat (first | (with_reducible first | exact HB.out | apply below_alloc | apply pw_below_drewN | apply below_drew1) | exact HB.out)) hb); clear HB; have HB := n0_; clear n0_; (try clear hb); (try clear hb2); (try clear hk); (try clear hi)) | (go_at_call 39; (with_reducible refine (solsticelaw04_wakes.calls kj31  t130 htrue _ ?sideG A70.out).mono ?_); (case sideG => first | exact GP_below HG.out (by repeat (first | (with_reducible first | exact HB.out | apply below_alloc | apply pw_below_drewN | apply below_drew1) | exact HB.out)) | repeat (first | exact HG.out | refine GP_alloc ?_ _ | refine GP_drewN ?_ _ | refine GP_drew ?_)); rintro e w72 ⟨rfl, hb⟩; have n0_ := Aside0.mk (below_step (by repeat (first | (with_reducible first | exact HB.out | apply below_alloc | apply pw_below_drewN | apply below_drew1) | exact HB.out)) hb); clear HB; have HB := n0_; clear n0_; (try clear hb); (try clear hb2); (try clear hk); (try clear hi))))
                            go_ret
                            exact ⟨by first | rfl | (simp [errW_none, errW_some] <;> rfl) | (simp only [← hji5, ← hji9, ← hji14, ← hji18, ← hji23, ← hji27]; first | rfl | (simp [errW_none, errW_some] <;> rfl)) | (simp [*, errW_none, errW_some] <;> rfl), by repeat (first | (with_reducible first | exact HB.out | apply below_alloc | apply pw_below_drewN | apply below_drew1) | exact HB.out)⟩
                           ·rw [if_neg c69] at H
                            have c69b0 : (t127 == 0) = false := beq_eq_false_iff_ne.mpr c69
                            have c69b1 : (t127 != 0) = true := bne_iff_ne.mpr c69
                            obtain rfl := Option.some.inj H
                            cases htrue
                          ·rw [if_neg c68] at H
                           have c68b0 : (t128 == 5) = false := beq_eq_false_iff_ne.mpr c68
                           have c68b1 : (t128 != 5) = true := bne_iff_ne.mpr c68
                           obtain rfl := Option.some.inj H
                           cases htrue
                     ·rw [if_neg c31] at H
                      exact absurd H (by simp)
                    ·rw [if_neg c30] at H
                     exact absurd H (by simp)
                   ·rw [if_neg c29] at H
                    exact absurd H (by simp)
                  ·rw [if_neg c28] at H
                   exact absurd H (by simp)
                 ·rw [if_neg c26] at H
                  exact absurd H (by simp)
                ·rw [if_neg c25] at H
                 exact absurd H (by simp)
               ·rw [if_neg c24] at H
                exact absurd H (by simp)
              ·rw [if_neg c22] at H
               exact absurd H (by simp)
             ·rw [if_neg c21] at H
              exact absurd H (by simp)
            ·rw [if_neg c20] at H
             exact absurd H (by simp)
           ·rw [if_neg c19] at H
            exact absurd H (by simp)
          ·rw [if_neg c17] at H
           exact absurd H (by simp)
         ·rw [if_neg c16] at H
          exact absurd H (by simp)
        ·rw [if_neg c15] at H
         exact absurd H (by simp)
       ·rw [if_neg c13] at H
        exact absurd H (by simp)
      ·rw [if_neg c12] at H
       exact absurd H (by simp)
     ·rw [if_neg c11] at H
      exact absurd H (by simp)
    ·rw [if_neg c10] at H
     exact absurd H (by simp)
   ·rw [if_neg c8] at H
    exact absurd H (by simp)
  ·rw [if_neg c7] at H
   exact absurd H (by simp)
 ·rw [if_neg c6] at H
  exact absurd H (by simp)
def solsticelaw04_ClockForms.Pure : Prop := ∀ (a0 : Int) (a1 : Int) (a2 : Int) (a3 : Int), (Lit.int .i64 a0).wf = true → (Lit.int .i64 a1).wf = true → (Lit.int .i64 a2).wf = true → (Lit.int .i64 a3).wf = true → ∃ k, solsticelaw04_ClockForms.f k a0 a1 a2 a3 = some true
end Go.Proofs.YtlfohcjajmebjaaDoor.PClk