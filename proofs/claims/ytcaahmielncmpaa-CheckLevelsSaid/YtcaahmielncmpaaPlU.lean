/-
  Plain facts on what the functions compute.
-/
import Derived.Test.YtcaahmielncmpaaPlS
set_option linter.unusedSimpArgs false
set_option linter.unusedVariables false
namespace Go.Proofs.Ytcaahmielncmpaa
open Go
end Go.Proofs.Ytcaahmielncmpaa
