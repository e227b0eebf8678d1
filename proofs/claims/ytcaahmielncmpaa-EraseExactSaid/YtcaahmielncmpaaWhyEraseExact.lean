/-
  The statement returns true.
-/
import Derived.Test.YtcaahmielncmpaaCtA
import Derived.Test.YtcaahmielncmpaaGenEraseExact
set_option linter.unusedSimpArgs false
set_option linter.unusedVariables false
namespace Go.Proofs.Ytcaahmielncmpaa
open Go
theorem w28_true (m : Nat) : f28 (m + 20) = some true := by kernel_rfl
theorem eraseExact_c (t : Tm) : ACalls Try.prog 3 [.agg t.cells] (.v (.one (.bool true))) true :=
  (ok3 (9980 + 20)).2 (t, ()) true (by
    show f3 (9980 + 20) t = some true
    simp only [f3, o3_0, c3_1, o3_1, ifB_eq]
    rw [f19_ok _ t 250 (by omega) (by omega) (by omega), Option.bind_some]
    by_cases h : (250 : Int) < t.weigh 250 200
    · rw [if_pos (by simpa using h)]
    rw [if_neg (by simpa using h)]
    have hs := Tm.great_size (by omega) h
    have hB : t.size ≤ BIG := by rw [BIG_eq]; omega
    have he : (if t.marked = true then t.erase else tzero).size ≤ 250 := by
      split
      · have := Tm.erase_le (t := t) (by assumption); omega
      · rw [tzero_size]; omega
    rw [f20_ok _ t (by omega) hB, Option.bind_some, f21_ok _ t (by omega) hB, Option.bind_some, f22_ok _ t (by omega) hB, Option.bind_some]
    generalize (if t.marked = true then t.erase else tzero) = y at he
    rw [f23_ok _ y y (by omega) (by rw [BIG_eq]; omega), Tm.same_refl, Option.bind_some, if_neg (by simp), ckB_eq (by rw [BIG_eq]; simp; omega), f25_ok _ t (by omega) hB, Option.bind_some, f23_ok _ t t (by omega) hB, Tm.same_refl, Option.bind_some, f27_ok _ t (by omega) hB, f26_ok _ t (by omega) hB]
    cases t.marked with
    | false => simp [w28_true]
    | true => simp [w28_true])
end Go.Proofs.Ytcaahmielncmpaa
