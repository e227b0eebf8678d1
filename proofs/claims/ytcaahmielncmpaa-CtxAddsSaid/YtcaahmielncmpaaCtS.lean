/-
  Plain facts on what the functions compute.
-/
import Derived.Test.YtcaahmielncmpaaCtA
set_option linter.unusedSimpArgs false
set_option linter.unusedVariables false
namespace Go.Proofs.Ytcaahmielncmpaa
open Go

/-! ## The size of what is put -/
end Go.Proofs.Ytcaahmielncmpaa
