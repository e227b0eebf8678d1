/-
  The statement returns true.
-/
import Derived.Test.YtcaahmielncmpaaCtS
import Derived.Test.YtcaahmielncmpaaGenPutExact
set_option linter.unusedSimpArgs false
set_option linter.unusedVariables false
namespace Go.Proofs.Ytcaahmielncmpaa
open Go
theorem w37_true (m : Nat) : f37 (m + 20) = some true := by kernel_rfl
theorem putExact_c (t v : Tm) : ACalls Try.prog 6 [.agg t.cells, .agg v.cells] (.v (.one (.bool true))) true :=
  (ok6 (99980 + 20)).2 (t, v, ()) true (by
    show f6 (99980 + 20) t v = some true
    simp only [f6, o6_0, ifB_eq]
    rw [f19_ok _ t 120 (by omega) (by omega) (by omega), Option.bind_some]
    by_cases h : (120 : Int) < t.weigh 120 200
    · rw [if_pos (by simpa using h)]
    rw [if_neg (by simpa using h), f19_ok _ v 120 (by omega) (by omega) (by omega), Option.bind_some]
    by_cases h2 : (120 : Int) < v.weigh 120 200
    · rw [if_pos (by simpa using h2)]
    rw [if_neg (by simpa using h2)]
    have hs := Tm.great_size (by omega) h
    have hs2 := Tm.great_size (by omega) h2
    have hB : t.size ≤ BIG := by rw [BIG_eq]; omega
    have hB2 : v.size ≤ BIG := by rw [BIG_eq]; omega
    have he := Tm.putZ_size t v
    have hm : t.size * v.size ≤ 120 * 120 := Nat.mul_le_mul (by omega) (by omega)
    rw [f35_ok _ t v (by omega) (by omega) hB2, Option.bind_some, f21_ok _ t (by omega) hB, Option.bind_some, f21_ok _ v (by omega) hB2, Option.bind_some, f36_ok _ t v (by omega) (by omega) (by omega) hB2, Option.bind_some]
    generalize t.putZ v = y at he
    rw [f23_ok _ y y (by omega) (by rw [BIG_eq]; omega), Tm.same_refl, Option.bind_some, if_neg (by simp), ckB_eq (by rw [BIG_eq]; simp; omega), f23_ok _ t t (by omega) hB, Tm.same_refl, Option.bind_some, if_pos rfl,
      f23_ok _ v v (by omega) hB2, Tm.same_refl, Option.bind_some, if_pos rfl, w37_true]
    rfl)
end Go.Proofs.Ytcaahmielncmpaa
