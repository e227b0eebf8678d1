/-
  The statement returns true.
-/
import Derived.Test.YteaglcbnkephgaaPlJ
import Derived.Test.YteaglcbnkephgaaGenRenameLifts
set_option linter.unusedSimpArgs false
set_option linter.unusedVariables false
namespace Go.Proofs.Yteaglcbnkephgaa
open Go
theorem w93_true (m : Nat) : f93 (m + 20) = some true := by kernel_rfl
theorem l24_ok (n : Nat) (t : Tm) (k c : Int) (hk : 0 ≤ k ∧ k ≤ 1000) (hc : c ≤ 200) (r : Option Bool) : ∀ (q j m : Nat), c = (j : Int) + q → q < m → (∀ m, l24_2 n (m + 1) k c t (seg k (j + q)) (seg 0 (j + q)) c = r) → l24_2 n m k c t (seg k j) (seg 0 j) j = r := by
  intro q
  induction q with
  | zero =>
    intro j m hc hm hr
    obtain ⟨m, rfl⟩ := fuel hm
    have := hr m
    rw [hc] at this ⊢
    simpa using this
  | succ q ih =>
    intro j m hc hm hr
    obtain ⟨m, rfl⟩ := fuel hm
    have := ih (j + 1) m (by omega) (by omega) (fun m => by have := hr m; rwa [show j + 1 + q = j + (q + 1) by omega])
    rw [seg_succ, seg_succ, Int.add_zero] at this
    simp only [l24_2, o24_2, decide_eq_true_eq]
    rw [if_pos (by omega), ckI_eq (by omega), ckB_eq (by simp [seg_length]; omega), ckB_eq (by simp [seg_length]; omega), ckI_eq (by omega)]
    exact this
theorem renameLifts_c (t : Tm) (k c : Int) : ACalls Try.prog 24 [.agg t.cells, .one (.int k), .one (.int c)] (.v (.one (.bool true))) true :=
  (ok24 (9980 + 20)).2 (t, k, c, ()) true (by
    show f24 (9980 + 20) t k c = some true
    simp only [f24, o24_0]
    rw [f62_ok _ t 300 (by omega) (by omega) (by omega), Option.bind_some]
    by_cases h : (300 : Int) < t.weigh 300 200
    · rw [if_pos (by simpa using h)]
    · rw [if_neg (by simpa using h)]
      have hs := Tm.great_size (by omega) h
      have hB : t.size ≤ BIG := by rw [BIG_eq]; omega
      simp only [decide_eq_true_eq]
      rw [f81_ok _ t (by omega) hB, f82_ok _ t (by omega) hB, Option.bind_some]
      cases hr : t.right with
      | false => rfl
      | true =>
        rw [if_neg (by simp)]
        by_cases h1 : k < 0
        · rw [if_pos h1]
        rw [if_neg h1]
        by_cases h2 : 1000 < k
        · rw [if_pos h2]
        rw [if_neg h2, if_pos rfl, Option.bind_some]
        by_cases h3 : c < t.free
        · rw [if_pos h3]
        rw [if_neg h3]
        by_cases h4 : 200 < c
        · rw [if_pos h4]
        rw [if_neg h4]
        have hfr := Tm.free_range t hr
        have hd := Tm.deep_size t
        have hroom : t.room k := by unfold Tm.room; omega
        have hroom0 : t.room 0 := by unfold Tm.room; omega
        obtain ⟨q, rfl⟩ : ∃ q : Nat, c = (q : Int) := ⟨c.toNat, by omega⟩
        simp only [c24_1, o24_1]
        have e1 : Tm.liftZ k 0 t = Tm.up k 0 t := by unfold Tm.liftZ; rw [if_pos ⟨by omega, by omega, hr⟩, Tm.lift_up k (by omega) _ t 0 (Nat.lt_succ_self _) hr hroom]; rfl
        have hz := Tm.up_size k 0 t
        have := l24_ok (9980 + 20) t k q (by omega) (by omega) (some true) q 0 (9980 + 20) (by omega) (by omega) (fun m => by
          rw [Nat.zero_add]
          simp only [l24_2, o24_2, decide_eq_true_eq]
          rw [if_neg (by omega), f94_ok _ t _ (by omega) (by omega) (by rw [seg_length]; omega) (by rw [seg_length, BIG_eq]; omega), Option.bind_some, f94_ok _ t _ (by omega) (by omega) (by rw [seg_length]; omega) (by rw [seg_length, BIG_eq]; omega), Option.bind_some, Tm.rename_seg k q t hr (by omega) (by omega) (by omega), Tm.rename_seg 0 q t hr (by omega) (by omega) (by omega), Tm.up_zero 0 t hr hroom0]
          simp only [if_true]
          rw [f92_ok _ t k 0 (by omega) (by omega) hB, Option.bind_some, e1, f68_ok _ _ _ (by omega) (by omega), Tm.same_refl, Option.bind_some, if_pos rfl, f68_ok _ _ _ (by omega) hB, Tm.same_refl, w93_true]
          rfl)
        exact this)
end Go.Proofs.Yteaglcbnkephgaa
