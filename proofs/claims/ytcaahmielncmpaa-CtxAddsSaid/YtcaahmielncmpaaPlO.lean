/-
  Plain facts on what the functions compute.
-/
import Derived.Test.YtcaahmielncmpaaPlN
set_option linter.unusedSimpArgs false
set_option linter.unusedVariables false
namespace Go.Proofs.Ytcaahmielncmpaa
open Go
/-! Erasing -/
end Go.Proofs.Ytcaahmielncmpaa
