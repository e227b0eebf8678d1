/-
  The statement returns true.
-/
import Derived.Test.YteaglcbnkephgaaPlH
import Derived.Test.YteaglcbnkephgaaGenLiftFree
set_option linter.unusedSimpArgs false
set_option linter.unusedVariables false
namespace Go.Proofs.Yteaglcbnkephgaa
open Go
theorem w93_true (m : Nat) : f93 (m + 20) = some true := by kernel_rfl
theorem liftFree_c (t : Tm) (k : Int) : ACalls Try.prog 22 [.agg t.cells, .one (.int k)] (.v (.one (.bool true))) true :=
  (ok22 (9980 + 20)).2 (t, k, ()) true (by
    show f22 (9980 + 20) t k = some true
    simp only [f22, o22_0]
    rw [f62_ok _ t 300 (by omega) (by omega) (by omega), Option.bind_some]
    by_cases h : (300 : Int) < t.weigh 300 200
    · rw [if_pos (by simpa using h)]
    · rw [if_neg (by simpa using h)]
      have hs := Tm.great_size (by omega) h
      have hB : t.size ≤ BIG := by rw [BIG_eq]; omega
      simp only [decide_eq_true_eq]
      rw [f81_ok _ t (by omega) hB, Option.bind_some]
      cases hr : t.right with
      | false => rfl
      | true =>
        rw [if_neg (by simp)]
        by_cases h1 : k < 0
        · rw [if_pos h1]
        rw [if_neg h1]
        by_cases h2 : 1048576 < k
        · rw [if_pos h2]
        rw [if_neg h2, f82_ok _ t (by omega) hB, if_pos hr, Option.bind_some]
        by_cases h3 : 1048576 < t.free
        · rw [if_pos h3]
        rw [if_neg h3]
        have hfr := Tm.free_range t hr
        have hroom : t.room k := by unfold Tm.room; omega
        have e1 : Tm.liftZ k 0 t = Tm.up k 0 t := by unfold Tm.liftZ; rw [if_pos ⟨by omega, by omega, hr⟩, Tm.lift_up k (by omega) _ t 0 (Nat.lt_succ_self _) hr hroom]; rfl
        have hur := Tm.up_right (f := 0) (by omega : (0 : Int) ≤ k) hr hroom
        have hus := Tm.up_sort k (by omega) _ t 0 (Nat.lt_succ_self _) hr hroom
        have huf := Tm.up_free k (by omega) 0 t (by omega)
        have hz := Tm.up_size k 0 t
        have key : ∀ n : Int, n = (Tm.up k 0 t).free → c22_2 (9980 + 20) t (Tm.up k 0 t) n = some true := fun n hn => by
          simp only [c22_2, o22_2]
          rw [f81_ok _ _ (by omega) (by omega), hur, Option.bind_some, if_pos rfl, f70_ok _ _ (by omega) (by omega), f70_ok _ t (by omega) hB, Option.bind_some, Option.bind_some, hus.1, f87_ok _ _ (by omega) (by omega), f87_ok _ t (by omega) hB, Option.bind_some, Option.bind_some, hz, f82_ok _ _ (by omega) (by omega), if_pos hur, Option.bind_some, hn, w93_true]
          simp
        simp only [c22_1, o22_1]
        rw [f92_ok _ t k 0 (by omega) (by omega) hB, e1, Option.bind_some, f82_ok _ t (by omega) hB, if_pos hr, Option.bind_some]
        simp only [decide_eq_true_eq]
        by_cases h4 : 0 < t.free
        · rw [if_pos h4, ckI_eq (by omega)]
          exact key _ (by rw [huf, if_neg (by omega)])
        · rw [if_neg h4]
          exact key _ (by rw [huf, if_pos (by omega)]))
end Go.Proofs.Yteaglcbnkephgaa
