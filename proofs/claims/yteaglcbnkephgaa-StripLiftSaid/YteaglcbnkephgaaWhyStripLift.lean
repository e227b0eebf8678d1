/-
  The statement returns true.
-/
import Derived.Test.YteaglcbnkephgaaPlK
import Derived.Test.YteaglcbnkephgaaGenStripLift
set_option linter.unusedSimpArgs false
set_option linter.unusedVariables false
namespace Go.Proofs.Yteaglcbnkephgaa
open Go
theorem w80_true (m : Nat) : f80 (m + 20) = some true := by kernel_rfl
theorem stripLift_c (t : Tm) (k f : Int) : ACalls Try.prog 25 [.agg t.cells, .one (.int k), .one (.int f)] (.v (.one (.bool true))) true :=
  (ok25 (9980 + 20)).2 (t, k, f, ()) true (by
    show f25 (9980 + 20) t k f = some true
    simp only [f25, o25_0]
    rw [f62_ok _ t 300 (by omega) (by omega) (by omega), Option.bind_some]
    by_cases h : (300 : Int) < t.weigh 300 200
    · rw [if_pos (by simpa using h)]
    · rw [if_neg (by simpa using h)]
      have hs := Tm.great_size (by omega) h
      have hB : t.size ≤ BIG := by rw [BIG_eq]; omega
      simp only [decide_eq_true_eq]
      rw [f81_ok _ t (by omega) hB, Option.bind_some]
      cases hr : t.right with
      | false => rfl
      | true =>
        rw [if_neg (by simp)]
        by_cases h1 : k < 0
        · rw [if_pos h1]
        rw [if_neg h1]
        by_cases h2 : f < 0
        · rw [if_pos h2]
        rw [if_neg h2]
        by_cases h3 : 1048576 < k
        · rw [if_pos h3]
        rw [if_neg h3, f82_ok _ t (by omega) hB, if_pos hr, Option.bind_some]
        by_cases h4 : 1048576 < t.free
        · rw [if_pos h4]
        rw [if_neg h4]
        have hd := Tm.deep_size t
        have hp := Tm.right_strip t hr
        have hz := Tm.strip_size' t hr
        have hds := Tm.deep_size t.strip
        have hf := Tm.strip_free' t hr
        have hpr : t.strip.right = true := by unfold Tm.right; rw [hp, Bool.or_true]
        have hroom : t.room k := by unfold Tm.room; omega
        have hroom' : t.strip.room k := by unfold Tm.room; omega
        have hur := Tm.up_right (f := f) (by omega : (0 : Int) ≤ k) hr hroom
        have e1 : Tm.liftZ k f t = Tm.up k f t := by unfold Tm.liftZ; rw [if_pos ⟨by omega, by omega, hr⟩, Tm.lift_up k (by omega) _ t f (Nat.lt_succ_self _) hr hroom]; rfl
        have e2 : Tm.liftZ k f t.strip = Tm.up k f t.strip := by unfold Tm.liftZ; rw [if_pos ⟨by omega, by omega, hpr⟩, Tm.lift_up k (by omega) _ _ f (Nat.lt_succ_self _) hpr hroom']; rfl
        have e3 : t.stripZ = t.strip := by unfold Tm.stripZ; rw [if_pos hr]
        have e4 : (Tm.up k f t).stripZ = Tm.up k f t.strip := by unfold Tm.stripZ; rw [if_pos hur, Tm.strip_up' k t hr f]
        have hz1 := Tm.up_size k f t
        have hz2 := Tm.up_size k f t.strip
        simp only [c25_1, o25_1]
        rw [f92_ok _ t k f (by omega) (by omega) hB, e1, Option.bind_some, f79_ok _ _ (by omega) (by omega), e4, Option.bind_some, f79_ok _ t (by omega) hB, e3, Option.bind_some, f92_ok _ _ k f (by omega) (by omega) (by omega), e2, Option.bind_some, f68_ok _ _ _ (by omega) (by omega), Tm.same_refl, w80_true]
        rfl)
end Go.Proofs.Yteaglcbnkephgaa
