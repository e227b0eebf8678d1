/-
  Plain facts on what the functions compute.
-/
import Derived.Test.YtcaahmielncmpaaPlO
set_option linter.unusedSimpArgs false
set_option linter.unusedVariables false
namespace Go.Proofs.Ytcaahmielncmpaa
open Go
def vars (j : Nat) : List Tm := (List.range j).map fun (i : Nat) => var i
end Go.Proofs.Ytcaahmielncmpaa
