-- A text of the kit's tools for this claim, its remarks left out.
import Derived.Test.YtdgeokpbedllaaaDoorStr
import Derived.Test.YtdgeokpbedllaaaDoorBase
import Derived.Test.YtdgeokpbedllaaaDoorPTrex6
import Derived.Test.YtdgeokpbedllaaaDoorETrex7
import Derived.Test.YtdgeokpbedllaaaDoorPTrex10
import Derived.Test.YtdgeokpbedllaaaDoorPTrex13
import Derived.Test.YtdgeokpbedllaaaDoorPTrex14
namespace Go.Proofs.YtdgeokpbedllaaaDoor.Base
open Go.RowKit Go.Proofs.YtdgeokpbedllaaaDoor.PTre Go.Proofs.YtdgeokpbedllaaaDoorW.PrintWords Go.Proofs.YtdgeokpbedllaaaDoorW.PrintLast Go.Proofs.YtdgeokpbedllaaaDoorW.PrintMore
set_option linter.unusedVariables false
set_option linter.unusedSimpArgs false
def chn (c : Int) : Bool := (decide (48 ≤ c) && decide (c ≤ 57)) || (decide (97 ≤ c) && decide (c ≤ 122)) || (decide (65 ≤ c) && decide (c ≤ 90)) || decide (c = 45)
theorem chn_iff (c : Int) : chn c = true ↔ (48 ≤ c ∧ c ≤ 57) ∨ (97 ≤ c ∧ c ≤ 122) ∨ (65 ≤ c ∧ c ≤ 90) ∨ c = 45 := by
 unfold chn
 simp only [Bool.or_eq_true, Bool.and_eq_true, decide_eq_true_eq, or_assoc]
def nmS (l : List Int) : Bool := l.all chn && (decide (1 ≤ l.length) && decide (l.length ≤ 40))
def clr (c : Int) : Bool := (decide (32 ≤ c) && decide (c ≠ 127)) || decide (c = 9)
theorem clr_iff (c : Int) : clr c = true ↔ (32 ≤ c ∧ c ≠ 127) ∨ c = 9 := by
 unfold clr
 simp only [Bool.or_eq_true, Bool.and_eq_true, decide_eq_true_eq]
def vlS (l : List Int) : Bool := l.all clr && decide ((34 : Int) ∉ l)
theorem vlS_iff {l : List Int} : vlS l = true ↔ l.all clr = true ∧ (34 : Int) ∉ l := by unfold vlS; simp
def Fits (xs : List ByteArray) : Prop := ∀ x ∈ xs, x.size ≤ 9223372036854775806
def prS (p : S70) : Bool := nmS (bytesOf p.f0) && (decide (0 < p.f1.length) && p.f1.all fun x => vlS (bytesOf x))
def FitP (p : S70) : Prop := p.f0.size ≤ 9223372036854775806 ∧ Fits p.f1 ∧ p.f1.length ≤ 9223372036854775806
def lnS (n : ByteArray) (ps : List S70) (v : ByteArray) : Bool := nmS (bytesOf n) && ((bytesOf v).all clr && ps.all prS)
def pre (st : List Int) (l : List Int) : List Int := l.takeWhile fun c => !(st.contains c)
end Go.Proofs.YtdgeokpbedllaaaDoor.Base
