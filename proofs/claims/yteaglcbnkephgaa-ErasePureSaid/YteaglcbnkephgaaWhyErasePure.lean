/-
  The statement returns true.
-/
import Derived.Test.YteaglcbnkephgaaPlF
import Derived.Test.YteaglcbnkephgaaGenErasePure
set_option linter.unusedSimpArgs false
set_option linter.unusedVariables false
namespace Go.Proofs.Yteaglcbnkephgaa
open Go
theorem w73_true (m : Nat) : f73 (m + 20) = some true := by kernel_rfl
theorem erasePure_c (t : Tm) : ACalls Try.prog 10 [.agg t.cells] (.v (.one (.bool true))) true :=
  (ok10 (9980 + 20)).2 (t, ()) true (by
    show f10 (9980 + 20) t = some true
    simp only [f10, o10_0]
    rw [f62_ok _ t 250 (by omega) (by omega) (by omega), Option.bind_some]
    by_cases h : (250 : Int) < t.weigh 250 200
    · rw [if_pos (by simpa using h)]
    · rw [if_neg (by simpa using h)]
      have hs := (Tm.great_size (by omega) h).1
      have hB : t.size ≤ BIG := by rw [BIG_eq]; omega
      rw [f70_ok _ t (by omega) hB, Option.bind_some]
      cases hm : t.marked with
      | false => rfl
      | true =>
        have hle := Tm.erase_le hm
        have hem := Tm.erase_marked _ t (Nat.lt_succ_self _) hm
        have hec := Tm.erase_count _ t (Nat.lt_succ_self _) hm
        have hee := Tm.erase_fix _ t.erase (Nat.lt_succ_self _) hec
        simp only [Bool.not_true, Bool.false_eq_true, if_false, c10_1, o10_1]
        rw [f67_ok _ t (by omega) hB, if_pos hm, Option.bind_some, f74_ok _ t.erase (by omega) (by omega), Option.bind_some, f67_ok _ t.erase (by omega) (by omega), if_pos hem, hee, Option.bind_some, f68_ok _ t.erase t.erase (by omega) (by omega), f68_ok _ t.erase t (by omega) (by omega), f72_ok _ t (by omega) hB, w73_true, if_pos hm]
        simp only [Option.bind_some, Tm.same_refl, if_true, Tm.pure, hem, hec, decide_true, Bool.and_self]
        have : (decide ((t.count : Int) = 0) == t.erase.same t) = true := by
          by_cases hc : t.count = 0
          · rw [Tm.erase_fix _ t (Nat.lt_succ_self _) hc, Tm.same_refl]; simp [hc]
          · have h1 : t.erase.same t = false := by
              cases h2 : t.erase.same t with
              | false => rfl
              | true => rw [(Tm.same_iff _ _).1 h2] at hec; exact absurd hec hc
            have h3 : ¬ (t.count : Int) = 0 := by omega
            rw [h1]; simp [hc]
        rw [this, if_pos rfl])
end Go.Proofs.Yteaglcbnkephgaa
