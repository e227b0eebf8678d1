/-
  Plain facts on what the functions compute.
-/
import Derived.Test.YtcaahmielncmpaaPlU
set_option linter.unusedSimpArgs false
set_option linter.unusedVariables false
namespace Go.Proofs.Ytcaahmielncmpaa
open Go
/-! ## The document's put -/
end Go.Proofs.Ytcaahmielncmpaa
