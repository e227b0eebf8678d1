/-
  The statement returns true.
-/
import Derived.Test.YteaglcbnkephgaaPlF
import Derived.Test.YteaglcbnkephgaaGenRelatedExact
set_option linter.unusedSimpArgs false
set_option linter.unusedVariables false
namespace Go.Proofs.Yteaglcbnkephgaa
open Go
theorem w73_true (m : Nat) : f73 (m + 20) = some true := by kernel_rfl
theorem Tm.related_symm (a b : Tm) : a.related b = b.related a := by
  unfold Tm.related
  rw [Tm.same_symm]
  cases a.marked <;> cases b.marked <;> rfl
theorem Tm.related_trans {a b c : Tm} (h1 : a.related b = true) (h2 : b.related c = true) : a.related c = true := by
  unfold Tm.related at *
  simp only [Bool.and_eq_true, Tm.same_iff] at *
  exact ⟨h1.1, h2.2.1, h1.2.2.trans h2.2.2⟩
theorem relatedExact_c (a b c : Tm) : ACalls Try.prog 11 [.agg a.cells, .agg b.cells, .agg c.cells] (.v (.one (.bool true))) true :=
  (ok11 (9980 + 20)).2 (a, b, c, ()) true (by
    show f11 (9980 + 20) a b c = some true
    simp only [f11, o11_0]
    rw [f62_ok _ a 250 (by omega) (by omega) (by omega), f62_ok _ b 250 (by omega) (by omega) (by omega), f62_ok _ c 250 (by omega) (by omega) (by omega), Option.bind_some, Option.bind_some, Option.bind_some]
    by_cases h : (250 : Int) < a.weigh 250 200
    · rw [if_pos (by simpa using h)]
    · rw [if_neg (by simpa using h)]
      by_cases h' : (250 : Int) < b.weigh 250 200
      · rw [if_pos (by simpa using h')]
      · rw [if_neg (by simpa using h')]
        by_cases h'' : (250 : Int) < c.weigh 250 200
        · rw [if_pos (by simpa using h'')]
        · rw [if_neg (by simpa using h'')]
          have hs := (Tm.great_size (by omega) h).1
          have hs' := (Tm.great_size (by omega) h').1
          have hs'' := (Tm.great_size (by omega) h'').1
          have hB : (250 : Nat) ≤ BIG := by rw [BIG_eq]; omega
          have R : ∀ x y : Tm, (x.size : Int) ≤ 250 → (y.size : Int) ≤ 250 → f75 (9980 + 20) x y = some (x.related y) := fun x y hx hy => f75_ok _ x y (by omega) (by omega) (by omega) (by omega)
          simp only [c11_1, o11_1, c11_2, o11_2]
          rw [R a b hs hs', R b c hs' hs'', R a c hs hs'', R b a hs' hs, R a a hs hs, f76_ok _ a b (by omega) (by omega) (by omega) (by omega), f70_ok _ a (by omega) (by omega), w73_true]
          have hr : a.related a = a.marked := by unfold Tm.related; rw [Tm.same_refl]; cases a.marked <;> rfl
          simp only [Option.bind_some, hr, Tm.related_symm b a, beq_self_eq_true, Bool.not_true, Bool.false_eq_true, if_false, if_true]
          cases h1 : a.related b with
          | false => rfl
          | true =>
            cases h2 : b.related c with
            | false => rfl
            | true => rw [Tm.related_trans h1 h2]; rfl)
end Go.Proofs.Yteaglcbnkephgaa
