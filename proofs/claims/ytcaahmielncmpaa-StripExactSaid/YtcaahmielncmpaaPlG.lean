/-
  Plain facts on what the functions compute.
-/
import Derived.Test.YtcaahmielncmpaaPlF
set_option linter.unusedSimpArgs false
set_option linter.unusedVariables false
namespace Go.Proofs.Ytcaahmielncmpaa
open Go
/-! ## Lifting -/
end Go.Proofs.Ytcaahmielncmpaa
