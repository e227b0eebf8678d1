/-
  The statement returns true.
-/
import Derived.Test.YteaglcbnkephgaaPlK
import Derived.Test.YteaglcbnkephgaaGenStripPlain
set_option linter.unusedSimpArgs false
set_option linter.unusedVariables false
namespace Go.Proofs.Yteaglcbnkephgaa
open Go
theorem w80_true (m : Nat) : f80 (m + 20) = some true := by kernel_rfl
theorem stripPlain_c (t : Tm) : ACalls Try.prog 14 [.agg t.cells] (.v (.one (.bool true))) true :=
  (ok14 (9980 + 20)).2 (t, ()) true (by
    show f14 (9980 + 20) t = some true
    simp only [f14, o14_0]
    rw [f62_ok _ t 300 (by omega) (by omega) (by omega), Option.bind_some]
    by_cases h : (300 : Int) < t.weigh 300 200
    · rw [if_pos (by simpa using h)]
    · rw [if_neg (by simpa using h)]
      have hs := Tm.great_size (by omega) h
      have hB : t.size ≤ BIG := by rw [BIG_eq]; omega
      rw [f81_ok _ t (by omega) hB, Option.bind_some]
      cases hr : t.right with
      | false => rfl
      | true =>
        rw [if_neg (by simp)]
        have hp := Tm.right_strip t hr
        have hz := Tm.strip_size' t hr
        have hf := Tm.strip_free' t hr
        have hpr : t.strip.right = true := by unfold Tm.right; rw [hp, Bool.or_true]
        have e1 : t.stripZ = t.strip := by unfold Tm.stripZ; rw [if_pos hr]
        have e2 : t.strip.stripZ = t.strip := by unfold Tm.stripZ; rw [if_pos hpr, Tm.plain_strip hp]
        simp only [c14_1, o14_1]
        rw [f79_ok _ t (by omega) hB, Option.bind_some, e1, f77_ok _ _ (by omega) (by omega), hp, Option.bind_some, if_pos rfl, f79_ok _ _ (by omega) (by omega), e2, Option.bind_some, f68_ok _ _ _ (by omega) (by omega), Tm.same_refl, Option.bind_some, if_pos rfl, f82_ok _ _ (by omega) (by omega), if_pos hpr, f82_ok _ _ (by omega) (by omega), if_pos hr, Option.bind_some, Option.bind_some, if_pos (by simpa using hf), w80_true]
        rfl)
end Go.Proofs.Yteaglcbnkephgaa
