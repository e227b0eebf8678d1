/-
  The statement returns true.
-/
import Derived.Test.YteaglcbnkephgaaPlJ
import Derived.Test.YteaglcbnkephgaaGenRenameExact
set_option linter.unusedSimpArgs false
set_option linter.unusedVariables false
namespace Go.Proofs.Yteaglcbnkephgaa
open Go
theorem w93_true (m : Nat) : f93 (m + 20) = some true := by kernel_rfl
theorem renameExact_c (t : Tm) (to : List Int) : ACalls Try.prog 23 [.agg t.cells, .one (.slice (to.map fun n => [.int n]))] (.v (.one (.bool true))) true :=
  (ok23 (9980 + 20)).2 (t, to, ()) true (by
    show f23 (9980 + 20) t to = some true
    simp only [f23, o23_0]
    rw [f62_ok _ t 300 (by omega) (by omega) (by omega), Option.bind_some]
    by_cases h : (300 : Int) < t.weigh 300 200
    · rw [if_pos (by simpa using h)]
    · rw [if_neg (by simpa using h)]
      have hs := Tm.great_size (by omega) h
      have hB : t.size ≤ BIG := by rw [BIG_eq]; omega
      simp only [decide_eq_true_eq]
      by_cases h1 : 200 < (to.length : Int)
      · rw [if_pos h1]
      rw [if_neg h1]
      simp only [c23_1, o23_1]
      have hz := Tm.rename_size t to
      have hz' : (t.rename to).1.size ≤ 300 := by
        rcases hz with hz | hz
        · omega
        · rw [hz]; decide
      rw [f94_ok _ t to (by omega) (by omega) (by omega) (by rw [BIG_eq]; omega), Option.bind_some, f95_ok _ t to (by omega) (by omega) (by omega) (by rw [BIG_eq]; omega), Option.bind_some, if_pos (by simp), f68_ok _ _ _ (by omega) (by rw [BIG_eq]; omega), Tm.same_refl, w93_true]
      rfl)
end Go.Proofs.Yteaglcbnkephgaa
