/-
  Plain facts on what the functions compute.
-/
import Derived.Test.YtcaahmielncmpaaPlE
set_option linter.unusedSimpArgs false
set_option linter.unusedVariables false
namespace Go.Proofs.Ytcaahmielncmpaa
open Go
/-! ## What is known of erasures -/
end Go.Proofs.Ytcaahmielncmpaa
