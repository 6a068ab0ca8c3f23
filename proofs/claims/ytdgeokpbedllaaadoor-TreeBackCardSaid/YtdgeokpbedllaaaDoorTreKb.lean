-- A text of the kit's tools for this claim, its remarks left out.
import Derived.Test.YtdgeokpbedllaaaDoorBase
import Derived.Test.YtdgeokpbedllaaaDoorStr
import Derived.Test.YtdgeokpbedllaaaDoorETrex2
namespace Go.Proofs.YtdgeokpbedllaaaDoor.TreK
structure Lam (E : Nat → Nat) (n : Nat) : Prop where
 up : ∀ a, a < n → a < E a ∧ E a ≤ n
 inn : ∀ a b, a < b → b < E a → a < n → E b ≤ E a
variable {E : Nat → Nat} {n : Nat}
end Go.Proofs.YtdgeokpbedllaaaDoor.TreK
namespace Go.Proofs.YtdgeokpbedllaaaDoor.TreK
open Go.RowKit Go.Proofs.YtdgeokpbedllaaaDoor.PTre Go.Proofs.YtdgeokpbedllaaaDoorW.PrintWords Go.Proofs.YtdgeokpbedllaaaDoorW.PrintLast Go.Proofs.YtdgeokpbedllaaaDoorW.PrintMore Go.Proofs.YtdgeokpbedllaaaDoor.Base
set_option linter.unusedVariables false
set_option linter.unusedSimpArgs false
def Eo (l : List S40) (a : Nat) : Nat := a + 1 + (rd_T40 l (a : Int)).f2.toNat
structure Nest (l : List S40) : Prop where
 lam : Lam (Eo l) l.length
 own : ∀ a : Nat, a < l.length → 0 ≤ (rd_T40 l (a : Int)).f2
def up (l : List Nat) : List Int := l.map fun x : Nat => (x : Int)
theorem Nest.f2 {l : List S40} (h : Nest l) {a : Nat} (ha : a < l.length) : (rd_T40 l (a : Int)).f2 = (Eo l a : Int) - 1 - a := by
 have := h.own a ha
 unfold Eo
 omega
end Go.Proofs.YtdgeokpbedllaaaDoor.TreK
