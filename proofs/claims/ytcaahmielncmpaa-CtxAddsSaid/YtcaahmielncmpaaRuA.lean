/-
  Plain facts on what the functions compute.
-/
import Derived.Test.YtcaahmielncmpaaCtC
import Derived.Test.YtcaahmielncmpaaCtS
import Derived.Test.YtcaahmielncmpaaGenR
set_option linter.unusedSimpArgs false
set_option linter.unusedVariables false
namespace Go.Proofs.Ytcaahmielncmpaa
open Go

/-! ## The rules: tables -/
/-! ## Zero, pure and free -/
/-! ## Pure contexts -/
end Go.Proofs.Ytcaahmielncmpaa
