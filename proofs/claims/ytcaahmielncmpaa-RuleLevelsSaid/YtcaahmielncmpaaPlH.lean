/-
  Plain facts on what the functions compute.
-/
import Derived.Test.YtcaahmielncmpaaPlG
set_option linter.unusedSimpArgs false
set_option linter.unusedVariables false
namespace Go.Proofs.Ytcaahmielncmpaa
open Go
/-! ## Lifting without a bound -/
end Go.Proofs.Ytcaahmielncmpaa
