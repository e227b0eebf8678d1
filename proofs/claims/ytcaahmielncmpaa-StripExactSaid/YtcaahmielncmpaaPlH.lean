/-
  Plain facts on what the functions compute.
-/
import Derived.Test.YtcaahmielncmpaaPlG
set_option linter.unusedSimpArgs false
set_option linter.unusedVariables false
namespace Go.Proofs.Ytcaahmielncmpaa
open Go
/-! ## Lifting without a bound -/
mutual
def Tm.up (k : Int) : Int → Tm → Tm
  | f, .mk kd i j n ks => if kd = 2 then .mk kd (if f ≤ i then i + k else i) j n ks else .mk kd i j n (Tm.ups k kd f 0 ks)
def Tm.ups (k kd f : Int) : Nat → List Tm → List Tm
  | _, [] => []
  | i, x :: xs => Tm.up k (f + tbinds kd i) x :: Tm.ups k kd f (i + 1) xs
end
end Go.Proofs.Ytcaahmielncmpaa
