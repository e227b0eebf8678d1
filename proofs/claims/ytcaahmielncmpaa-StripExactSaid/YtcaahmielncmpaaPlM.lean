/-
  Plain facts on what the functions compute.
-/
import Derived.Test.YtcaahmielncmpaaPlL
set_option linter.unusedSimpArgs false
set_option linter.unusedVariables false
namespace Go.Proofs.Ytcaahmielncmpaa
open Go
/-! ## Putting, where nothing can fail -/
mutual
def Tm.sb (σ : Bool → Nat → Tm) : Int → Bool → Tm → Tm
  | d, p, .mk kd i j n ks => if kd = 2 ∧ d ≤ i then Tm.up d 0 (σ p (i - d).toNat) else .mk kd i j n (Tm.sbs σ kd d p 0 ks)
def Tm.sbs (σ : Bool → Nat → Tm) (kd d : Int) (p : Bool) : Nat → List Tm → List Tm
  | _, [] => []
  | i, x :: xs => Tm.sb σ (d + tbinds kd i) (mode p kd i) x :: Tm.sbs σ kd d p (i + 1) xs
end
/-! ### kids, one by one -/
def var (i : Int) : Tm := .mk 2 i 0 0 []
/-- What putting one term stands for. -/
def one (v : Tm) : Bool → Nat → Tm := fun p a => match a with
  | 0 => if p = true then v.strip else v
  | a + 1 => var a
end Go.Proofs.Ytcaahmielncmpaa
