/-
  The statement returns true.
-/
import Derived.Test.YteaglcbnkephgaaPlH
import Derived.Test.YteaglcbnkephgaaGenLiftStays
set_option linter.unusedSimpArgs false
set_option linter.unusedVariables false
namespace Go.Proofs.Yteaglcbnkephgaa
open Go
theorem w93_true (m : Nat) : f93 (m + 20) = some true := by kernel_rfl
theorem liftStays_c (t : Tm) (k more : Int) (hk : InI64 k) : ACalls Try.prog 21 [.agg t.cells, .one (.int k), .one (.int more)] (.v (.one (.bool true))) true :=
  (ok21 (9980 + 20)).2 (t, k, more, ()) true (by
    show f21 (9980 + 20) t k more = some true
    simp only [f21, o21_0]
    rw [f62_ok _ t 300 (by omega) (by omega) (by omega), Option.bind_some]
    by_cases h : (300 : Int) < t.weigh 300 200
    · rw [if_pos (by simpa using h)]
    · rw [if_neg (by simpa using h)]
      have hs := Tm.great_size (by omega) h
      have hB : t.size ≤ BIG := by rw [BIG_eq]; omega
      simp only [decide_eq_true_eq]
      rw [f81_ok _ t (by omega) hB, Option.bind_some]
      cases hr : t.right with
      | false => rfl
      | true =>
        rw [if_neg (by simp)]
        by_cases h1 : k < 0
        · rw [if_pos h1]
        rw [if_neg h1]
        by_cases h2 : more < 0
        · rw [if_pos h2]
        rw [if_neg h2]
        by_cases h3 : 1099511627776 < more
        · rw [if_pos h3]
        rw [if_neg h3]
        have hfr := Tm.free_range t hr
        have hk' := hk.2
        simp only [c21_1, o21_1]
        have e1 : Tm.liftZ k (t.free + more) t = t := by unfold Tm.liftZ; rw [if_pos ⟨by omega, by omega, hr⟩, Tm.lift_high k _ t _ (Nat.lt_succ_self _) hr (by omega)]; rfl
        have e2 : Tm.liftZ 0 more t = t := by unfold Tm.liftZ; rw [if_pos ⟨by omega, by omega, hr⟩, Tm.lift_zero _ t _ (Nat.lt_succ_self _) hr]; rfl
        rw [f82_ok _ t (by omega) hB, if_pos hr, Option.bind_some, ckI_eq (by omega), f92_ok _ t k _ (by omega) (by omega) hB, e1, Option.bind_some, f68_ok _ t t (by omega) hB, Tm.same_refl, Option.bind_some, if_pos rfl, f92_ok _ t 0 _ (by omega) (by omega) hB, e2, Option.bind_some, f68_ok _ t t (by omega) hB, Tm.same_refl, w93_true]
        rfl)
end Go.Proofs.Yteaglcbnkephgaa
