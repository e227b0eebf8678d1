/-
  The statement returns true.
-/
import Derived.Test.YteaglcbnkephgaaPlA
import Derived.Test.YteaglcbnkephgaaGenTermTable
set_option linter.unusedSimpArgs false
set_option linter.unusedVariables false
namespace Go.Proofs.Yteaglcbnkephgaa
open Go
theorem w61_true (m : Nat) : f61 (m + 20) = some true := by kernel_rfl
theorem termTable_c (k s i : Int) : ACalls Try.prog 7 [.one (.int k), .one (.int s), .one (.int i)] (.v (.one (.bool true))) true :=
  (ok7 (0 + 20)).2 (k, s, i, ()) true (by
    show f7 (0 + 20) k s i = some true
    unfold f7 o7_0
    simp only [f57_eq, f58_eq, f59_eq, f60_eq, w61_true, Option.bind_some, decide_true, if_true])
end Go.Proofs.Yteaglcbnkephgaa
