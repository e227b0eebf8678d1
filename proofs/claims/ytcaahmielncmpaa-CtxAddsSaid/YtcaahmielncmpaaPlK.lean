/-
  Plain facts on what the functions compute.
-/
import Derived.Test.YtcaahmielncmpaaPlJ
set_option linter.unusedSimpArgs false
set_option linter.unusedVariables false
namespace Go.Proofs.Ytcaahmielncmpaa
open Go
/-! ## Stripping the marks -/
mutual
def Tm.strip : Tm → Tm
  | .mk k i j n ks => if 3 ≤ k ∧ k ≤ 12 then .mk (if k = 12 then 23 else k + 10) (if k = 12 then i else 0) 0 (if k = 12 then 5 else 0) (Tm.strips k 0 ks) else .mk k i j n ks
def Tm.strips (k : Int) : Nat → List Tm → List Tm
  | _, [] => []
  | i, x :: xs => if (k = 4 ∧ i = 1) ∨ ((k = 5 ∨ k = 8 ∨ k = 9) ∧ i < 2) then Tm.strips k (i + 1) xs else (if k = 12 ∧ i = 2 then x else x.strip) :: Tm.strips k (i + 1) xs
end
end Go.Proofs.Ytcaahmielncmpaa
