/-
  Plain facts on what the functions compute.
-/
import Derived.Test.YtcaahmielncmpaaPlQ
set_option linter.unusedSimpArgs false
set_option linter.unusedVariables false
namespace Go.Proofs.Ytcaahmielncmpaa
open Go
/-! ### the document's strip -/
end Go.Proofs.Ytcaahmielncmpaa
