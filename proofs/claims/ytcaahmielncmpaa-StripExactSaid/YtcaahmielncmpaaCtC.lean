/-
  Plain facts on what the functions compute.
-/
import Derived.Test.YtcaahmielncmpaaCtB
set_option linter.unusedSimpArgs false
set_option linter.unusedVariables false
namespace Go.Proofs.Ytcaahmielncmpaa
open Go
theorem stripZ_size (t : Tm) : t.stripZ.size ≤ t.size := by
  unfold Tm.stripZ
  have := Tm.size_pos t
  by_cases h : t.right = true
  · rw [if_pos h]; exact Tm.strip_size' t h
  · rw [if_neg h, tzero_size]; omega
end Go.Proofs.Ytcaahmielncmpaa
