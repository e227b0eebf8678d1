/-
  The statement returns true.
-/
import Derived.Test.YteaglcbnkephgaaPlD
import Derived.Test.YteaglcbnkephgaaGenTermExact
set_option linter.unusedSimpArgs false
set_option linter.unusedVariables false
namespace Go.Proofs.Yteaglcbnkephgaa
open Go
theorem w61_true (m : Nat) : f61 (m + 20) = some true := by kernel_rfl
theorem termExact_c (t : Tm) : ACalls Try.prog 16 [.agg t.cells] (.v (.one (.bool true))) true :=
  (ok16 (9980 + 20)).2 (t, ()) true (by
    show f16 (9980 + 20) t = some true
    simp only [f16, o16_0]
    rw [f62_ok _ t 400 (by omega) (by omega) (by omega), Option.bind_some]
    by_cases h : (400 : Int) < t.weigh 400 200
    · rw [if_pos (by simpa using h)]
    · rw [if_neg (by simpa using h)]
      have hs := (Tm.great_size (by omega) h).1
      have hB : t.size ≤ BIG := by rw [BIG_eq]; omega
      have hn : t.size < 9980 + 20 := by omega
      rw [f83_ok _ t hn hB, f81_ok _ t hn hB, f84_ok _ t hn hB, f70_ok _ t hn hB, f85_ok _ t hn hB, f74_ok _ t hn hB, f86_ok _ t hn hB, f77_ok _ t hn hB, f63_ok _ t hn hB, f87_ok _ t hn hB, f64_ok _ t hn hB, f88_ok _ t hn hB, f89_ok _ t hn hB, f82_ok _ t hn hB, w61_true]
      simp only [Option.bind_some, beq_self_eq_true, decide_true, if_true])
end Go.Proofs.Yteaglcbnkephgaa
