/-
  The statement returns true.
-/
import Derived.Test.YtcaahmielncmpaaCtC
import Derived.Test.YtcaahmielncmpaaGenStripExact
set_option linter.unusedSimpArgs false
set_option linter.unusedVariables false
namespace Go.Proofs.Ytcaahmielncmpaa
open Go
theorem w31_true (m : Nat) : f31 (m + 20) = some true := by kernel_rfl
theorem stripExact_c (t : Tm) : ACalls Try.prog 4 [.agg t.cells] (.v (.one (.bool true))) true :=
  (ok4 (9980 + 20)).2 (t, ()) true (by
    show f4 (9980 + 20) t = some true
    simp only [f4, o4_0, ifB_eq]
    rw [f19_ok _ t 300 (by omega) (by omega) (by omega), Option.bind_some]
    by_cases h : (300 : Int) < t.weigh 300 200
    · rw [if_pos (by simpa using h)]
    rw [if_neg (by simpa using h)]
    have hs := Tm.great_size (by omega) h
    have hB : t.size ≤ BIG := by rw [BIG_eq]; omega
    have he := stripZ_size t
    rw [f29_ok _ t (by omega) hB, Option.bind_some, f21_ok _ t (by omega) hB, Option.bind_some, f30_ok _ t (by omega) hB, Option.bind_some]
    rw [f23_ok _ _ _ (by omega) (by rw [BIG_eq]; omega), Tm.same_refl, Option.bind_some, if_neg (by simp), ckB_eq (by rw [BIG_eq]; simp; omega), f23_ok _ t t (by omega) hB, Tm.same_refl, Option.bind_some, if_pos rfl, w31_true, Option.bind_some])
end Go.Proofs.Ytcaahmielncmpaa
