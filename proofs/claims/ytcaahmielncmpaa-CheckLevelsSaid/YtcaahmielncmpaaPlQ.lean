/-
  Plain facts on what the functions compute.
-/
import Derived.Test.YtcaahmielncmpaaPlP
set_option linter.unusedSimpArgs false
set_option linter.unusedVariables false
namespace Go.Proofs.Ytcaahmielncmpaa
open Go
/-- The mode in which `v` is put for `u`'s variables. -/
def put (t v : Tm) : Tm := Tm.sb (one v) 0 (decide (13 ≤ t.kind)) t
end Go.Proofs.Ytcaahmielncmpaa
