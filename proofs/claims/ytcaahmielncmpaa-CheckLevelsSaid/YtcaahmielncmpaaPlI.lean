/-
  Plain facts on what the functions compute.
-/
import Derived.Test.YtcaahmielncmpaaPlH
set_option linter.unusedSimpArgs false
set_option linter.unusedVariables false
namespace Go.Proofs.Ytcaahmielncmpaa
open Go
/-! ## Renaming -/
end Go.Proofs.Ytcaahmielncmpaa
