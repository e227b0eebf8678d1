/-
  The statement returns true.
-/
import Derived.Test.YteaglcbnkephgaaPlH
import Derived.Test.YteaglcbnkephgaaGenLiftTwice
set_option linter.unusedSimpArgs false
set_option linter.unusedVariables false
namespace Go.Proofs.Yteaglcbnkephgaa
open Go
theorem w93_true (m : Nat) : f93 (m + 20) = some true := by kernel_rfl
theorem liftTwice_c (t : Tm) (k m f : Int) (hk : InI64 k) (hm : InI64 m) : ACalls Try.prog 20 [.agg t.cells, .one (.int k), .one (.int m), .one (.int f)] (.v (.one (.bool true))) true :=
  (ok20 (9980 + 20)).2 (t, k, m, f, ()) true (by
    show f20 (9980 + 20) t k m f = some true
    simp only [f20, o20_0]
    rw [f62_ok _ t 300 (by omega) (by omega) (by omega), Option.bind_some]
    by_cases h : (300 : Int) < t.weigh 300 200
    · rw [if_pos (by simpa using h)]
    · rw [if_neg (by simpa using h)]
      have hs := Tm.great_size (by omega) h
      have hB : t.size ≤ BIG := by rw [BIG_eq]; omega
      simp only [decide_eq_true_eq]
      by_cases h1 : k < 0
      · rw [if_pos h1]
      rw [if_neg h1]
      by_cases h2 : m < 0
      · rw [if_pos h2]
      rw [if_neg h2]
      by_cases h3 : 1099511627776 < k
      · rw [if_pos h3]
      rw [if_neg h3]
      by_cases h4 : 1099511627776 < m
      · rw [if_pos h4]
      rw [if_neg h4, f81_ok _ t (by omega) hB, f82_ok _ t (by omega) hB, Option.bind_some]
      cases hr : t.right with
      | false => rfl
      | true =>
        rw [if_neg (by simp), if_pos rfl, Option.bind_some]
        by_cases h5 : 1048576 < t.free
        · rw [if_pos h5]
        rw [if_neg h5]
        by_cases h6 : 1048576 < k
        · rw [if_pos h6]
        rw [if_neg h6]
        by_cases h7 : 1048576 < m
        · rw [if_pos h7]
        rw [if_neg h7]
        simp only [c20_1, o20_1]
        have hroom : t.room (k + m) := by unfold Tm.room; omega
        have hroom1 : t.room k := by unfold Tm.room; omega
        have key : f68 (9980 + 20) (Tm.liftZ m f (Tm.liftZ k f t)) (Tm.liftZ (k + m) f t) = some true ∧ (Tm.liftZ k f t).size ≤ 300 := by
          by_cases hf : 0 ≤ f
          · have e1 : Tm.liftZ k f t = Tm.up k f t := by unfold Tm.liftZ; rw [if_pos ⟨by omega, hf, hr⟩, Tm.lift_up k (by omega) _ t f (Nat.lt_succ_self _) hr hroom1]; rfl
            have e2 : Tm.liftZ (k + m) f t = Tm.up (k + m) f t := by unfold Tm.liftZ; rw [if_pos ⟨by omega, hf, hr⟩, Tm.lift_up (k + m) (by omega) _ t f (Nat.lt_succ_self _) hr hroom]; rfl
            have hur := Tm.up_right (f := f) (by omega : (0 : Int) ≤ k) hr hroom1
            have huroom : (Tm.up k f t).room m := by
              unfold Tm.room at *
              rw [Tm.up_free k (by omega) f t hf, Tm.up_deep]
              split <;> omega
            have e3 : Tm.liftZ m f (Tm.up k f t) = Tm.up (k + m) f t := by
              unfold Tm.liftZ
              rw [if_pos ⟨by omega, hf, hur⟩, Tm.lift_up m (by omega) _ _ f (Nat.lt_succ_self _) hur huroom, Tm.up_up k m (by omega)]
              rfl
            rw [e1, e2, e3]
            have hz := Tm.up_size (k + m) f t
            have hz1 := Tm.up_size k f t
            exact ⟨by rw [f68_ok _ _ _ (by omega) (by omega), Tm.same_refl], by omega⟩
          · have e : ∀ k t, Tm.liftZ k f t = tzero := fun k t => by unfold Tm.liftZ; rw [if_neg (by omega)]
            rw [e, e, e]
            exact ⟨by rw [f68_ok _ _ _ (by decide) (by rw [BIG_eq]; decide), Tm.same_refl], by decide⟩
        rw [f92_ok _ t k f (by omega) (by omega) hB, Option.bind_some, f92_ok _ _ m f (by omega) (by omega) (by have := key.2; rw [BIG_eq]; omega), Option.bind_some, ckI_eq (by omega), f92_ok _ t (k + m) f (by omega) (by omega) hB, Option.bind_some, key.1, w93_true]
        rfl)
end Go.Proofs.Yteaglcbnkephgaa
