/-
  Plain facts on what the functions compute.
-/
import Derived.Test.YtcaahmielncmpaaPlK
set_option linter.unusedSimpArgs false
set_option linter.unusedVariables false
namespace Go.Proofs.Ytcaahmielncmpaa
open Go
/-! ## Putting terms for variables -/
end Go.Proofs.Ytcaahmielncmpaa
