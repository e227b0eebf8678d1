/-
  Plain facts on what the functions compute.
-/
import Derived.Test.YtcaahmielncmpaaGreatPlP
set_option linter.unusedSimpArgs false
set_option linter.unusedVariables false
namespace Go.Proofs.YtcaahmielncmpaaGreat
open Go
/-- Two terms put, one after the other. -/
def two (u v : Tm) : Bool → Nat → Tm := fun p a => match a with
  | 0 => Tm.sb (one v) 0 p (one u p 0)
  | a + 1 => one v p a
/-- The list that stands for putting `u`, then `v`. -/
def listed (w v : Tm) : Bool → Nat → Tm := fun p a => match a with
  | 0 => if p = true then w.strip else w
  | a + 1 => one v p a
/-- The mode in which `v` is put for `u`'s variables. -/
def put (t v : Tm) : Tm := Tm.sb (one v) 0 (decide (13 ≤ t.kind)) t
end Go.Proofs.YtcaahmielncmpaaGreat
