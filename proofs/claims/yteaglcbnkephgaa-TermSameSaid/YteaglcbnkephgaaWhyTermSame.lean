/-
  The statement returns true.
-/
import Derived.Test.YteaglcbnkephgaaPlD
import Derived.Test.YteaglcbnkephgaaGenTermSame
set_option linter.unusedSimpArgs false
set_option linter.unusedVariables false
namespace Go.Proofs.Yteaglcbnkephgaa
open Go
theorem w61_true (m : Nat) : f61 (m + 20) = some true := by kernel_rfl
theorem termSame_c (a b : Tm) : ACalls Try.prog 17 [.agg a.cells, .agg b.cells] (.v (.one (.bool true))) true :=
  (ok17 (9980 + 20)).2 (a, b, ()) true (by
    show f17 (9980 + 20) a b = some true
    simp only [f17, o17_0]
    rw [f62_ok _ a 400 (by omega) (by omega) (by omega), f62_ok _ b 400 (by omega) (by omega) (by omega), Option.bind_some, Option.bind_some]
    by_cases h : (400 : Int) < a.weigh 400 200
    · rw [if_pos (by simpa using h)]
    · rw [if_neg (by simpa using h)]
      by_cases h' : (400 : Int) < b.weigh 400 200
      · rw [if_pos (by simpa using h')]
      · rw [if_neg (by simpa using h')]
        have hs := (Tm.great_size (by omega) h).1
        have hs' := (Tm.great_size (by omega) h').1
        have hB : a.size ≤ BIG := by rw [BIG_eq]; omega
        have hn : a.size < 9980 + 20 := by omega
        have hB' : b.size ≤ BIG := by rw [BIG_eq]; omega
        have hn' : b.size < 9980 + 20 := by omega
        simp only [c17_1, o17_1, c17_2, o17_2]
        rw [f90_ok _ a b hn hB, f68_ok _ a b (by omega) hB, f66_ok _ a (by omega) hB, f90_ok _ b a hn' hB', f83_ok _ a hn hB, f83_ok _ b hn' hB', f63_ok _ a hn hB, f63_ok _ b hn' hB', w61_true]
        simp only [Option.bind_some]
        rw [f90_ok _ a a hn hB, Tm.same_refl, Tm.same_symm b a]
        cases hab : a.same b with
        | false => simp
        | true =>
          rw [(Tm.same_iff a b).1 hab]
          simp)
end Go.Proofs.Yteaglcbnkephgaa
