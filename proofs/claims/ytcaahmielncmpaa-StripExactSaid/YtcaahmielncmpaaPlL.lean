/-
  Plain facts on what the functions compute.
-/
import Derived.Test.YtcaahmielncmpaaPlK
set_option linter.unusedSimpArgs false
set_option linter.unusedVariables false
namespace Go.Proofs.Ytcaahmielncmpaa
open Go
/-! ## Putting terms for variables -/
def mode (p : Bool) (kd i : Int) : Bool := p || (decide (kd = 12) && decide (i = 2))
end Go.Proofs.Ytcaahmielncmpaa
