/-
  The statement returns true.
-/
import Derived.Test.YtcaahmielncmpaaCtA
import Derived.Test.YtcaahmielncmpaaGenLiftExact
set_option linter.unusedSimpArgs false
set_option linter.unusedVariables false
namespace Go.Proofs.Ytcaahmielncmpaa
open Go
theorem w34_true (m : Nat) : f34 (m + 20) = some true := by kernel_rfl
theorem liftExact_c (t : Tm) (k f : Int) (hk : InI64 k) (hf : InI64 f) : ACalls Try.prog 5 [.agg t.cells, .one (.int k), .one (.int f)] (.v (.one (.bool true))) true :=
  (ok5 (9980 + 20)).2 (t, k, f, ()) true (by
    show f5 (9980 + 20) t k f = some true
    unfold InI64 at hk hf
    simp only [f5, o5_0, ifB_eq]
    rw [f19_ok _ t 300 (by omega) (by omega) (by omega), Option.bind_some]
    by_cases h : (300 : Int) < t.weigh 300 200
    · rw [if_pos (by simpa using h)]
    rw [if_neg (by simpa using h)]
    have hs := Tm.great_size (by omega) h
    have hB : t.size ≤ BIG := by rw [BIG_eq]; omega
    have he := Tm.liftZ_size k f t
    rw [f32_ok _ t k f (by omega) (by omega) (by omega) hB, Option.bind_some, f21_ok _ t (by omega) hB, Option.bind_some, f33_ok _ t k f (by omega) (by omega) hB, Option.bind_some]
    generalize Tm.liftZ k f t = y at he
    rw [f23_ok _ y y (by omega) (by rw [BIG_eq]; omega), Tm.same_refl, Option.bind_some, if_neg (by simp), ckB_eq (by rw [BIG_eq]; simp; omega), f23_ok _ t t (by omega) hB, Tm.same_refl, Option.bind_some, if_pos rfl, Option.bind_some,
      f23_ok _ y y (by omega) (by rw [BIG_eq]; omega), Tm.same_refl, Option.bind_some, if_pos rfl, w34_true]
    rfl)
end Go.Proofs.Ytcaahmielncmpaa
