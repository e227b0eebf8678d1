/-
  Plain facts on what the functions compute.
-/
import Derived.Test.YtcaahmielncmpaaPlM
set_option linter.unusedSimpArgs false
set_option linter.unusedVariables false
namespace Go.Proofs.Ytcaahmielncmpaa
open Go
theorem liftZ_up (k f : Int) (t : Tm) (hk : 0 ≤ k) (hf : 0 ≤ f) (hr : t.right = true) (hroom : t.room k) : Tm.liftZ k f t = Tm.up k f t := by
  unfold Tm.liftZ; rw [if_pos ⟨hk, hf, hr⟩, Tm.lift_up k hk _ t f (Nat.lt_succ_self _) hr hroom]; rfl
end Go.Proofs.Ytcaahmielncmpaa
