/-
  Plain facts on what the functions compute.
-/
import Derived.Test.YtcaahmielncmpaaPlL
set_option linter.unusedSimpArgs false
set_option linter.unusedVariables false
namespace Go.Proofs.Ytcaahmielncmpaa
open Go
/-! ## Putting, where nothing can fail -/
/-! ### kids, one by one -/
def var (i : Int) : Tm := .mk 2 i 0 0 []
/-- What putting one term stands for. -/
def one (v : Tm) : Bool → Nat → Tm := fun p a => match a with
  | 0 => if p = true then v.strip else v
  | a + 1 => var a
end Go.Proofs.Ytcaahmielncmpaa
