/-
  The statement returns true.
-/
import Derived.Test.YteaglcbnkephgaaPlF
import Derived.Test.YteaglcbnkephgaaGenRelatedMoved
set_option linter.unusedSimpArgs false
set_option linter.unusedVariables false
namespace Go.Proofs.Yteaglcbnkephgaa
open Go
theorem w73_true (m : Nat) : f73 (m + 20) = some true := by kernel_rfl
theorem Tm.node_mkF (k i j n : Int) (l : List Tm) : (Tm.mk k i j n l).node = (decide ((l.length : Int) = tkids k n) && tnums k i j n) := rfl
theorem relatedMoved_c (t a b c : Tm) (k : Int) : ACalls Try.prog 12 [.agg t.cells, .agg a.cells, .agg b.cells, .agg c.cells, .one (.int k)] (.v (.one (.bool true))) true :=
  (ok12 (9980 + 20)).2 (t, a, b, c, k, ()) true (by
    show f12 (9980 + 20) t a b c k = some true
    have hBig := BIG_eq
    simp only [f12, o12_0]
    rw [f62_ok _ t 250 (by omega) (by omega) (by omega), f62_ok _ a 250 (by omega) (by omega) (by omega), f62_ok _ b 250 (by omega) (by omega) (by omega), f62_ok _ c 250 (by omega) (by omega) (by omega)]
    simp only [Option.bind_some, decide_eq_true_eq]
    by_cases h1 : (250 : Int) < t.weigh 250 200
    · rw [if_pos h1]
    rw [if_neg h1]
    by_cases h2 : (250 : Int) < a.weigh 250 200
    · rw [if_pos h2]
    rw [if_neg h2]
    by_cases h3 : (250 : Int) < b.weigh 250 200
    · rw [if_pos h3]
    rw [if_neg h3]
    by_cases h4 : (250 : Int) < c.weigh 250 200
    · rw [if_pos h4]
    rw [if_neg h4]
    have s1 : t.size ≤ 250 := by have := Tm.great_size (by omega) h1; omega
    have s2 : a.size ≤ 250 := by have := Tm.great_size (by omega) h2; omega
    have s3 : b.size ≤ 250 := by have := Tm.great_size (by omega) h3; omega
    have s4 : c.size ≤ 250 := by have := Tm.great_size (by omega) h4; omega
    rw [f70_ok _ t (by omega) (by omega), f70_ok _ a (by omega) (by omega), f70_ok _ b (by omega) (by omega), f77_ok _ c (by omega) (by omega)]
    simp only [Option.bind_some]
    cases m1 : t.marked with
    | false => rfl
    | true =>
    cases m2 : a.marked with
    | false => rfl
    | true =>
    cases m3 : b.marked with
    | false => rfl
    | true =>
    cases m4 : c.plain with
    | false => rfl
    | true =>
    rw [if_neg (by simp), if_neg (by simp), if_neg (by simp), if_neg (by simp)]
    by_cases h5 : k < 0
    · rw [if_pos h5]
    rw [if_neg h5]
    by_cases h6 : 1000 < k
    · rw [if_pos h6]
    rw [if_neg h6]
    have hk : lev k = true := by simp [lev]; omega
    simp only [c12_1, o12_1, c12_2, o12_2, Tm.eta]
    have hm : (Tm.mk 12 k 0 0 [a, b, c, t]).marked = true := by simp [Tm.marked, Tm.markeds, Tm.node_mkF, tkids, tnums, m1, m2, m3, m4, hk]
    have he : (Tm.mk 12 k 0 0 [a, b, c, t]).erase = t.erase := by simp [Tm.erase, Tm.eraseAt]
    have hsz : (Tm.mk 12 k 0 0 [a, b, c, t]).size ≤ 1001 := by simp [Tm.size, Tm.sizes]; omega
    have hr1 : (Tm.mk 12 k 0 0 [a, b, c, t]).related t = true := by
      unfold Tm.related
      rw [hm, m1, he, Tm.same_refl]; rfl
    generalize Tm.mk 12 k 0 0 [a, b, c, t] = u at *
    have hm1 : (Tm.mk 11 k 0 0 [a, u]).marked = true := by simp [Tm.marked, Tm.markeds, Tm.node_mkF, tkids, tnums, m2, hm, hk]
    have hm2 : (Tm.mk 11 k 0 0 [a, t]).marked = true := by simp [Tm.marked, Tm.markeds, Tm.node_mkF, tkids, tnums, m2, m1, hk]
    have hs1 : (Tm.mk 11 k 0 0 [a, u]).size ≤ 1252 := by simp [Tm.size, Tm.sizes]; omega
    have hs2 : (Tm.mk 11 k 0 0 [a, t]).size ≤ 1252 := by simp [Tm.size, Tm.sizes]; omega
    have hr2 : (Tm.mk 11 k 0 0 [a, u]).related (Tm.mk 11 k 0 0 [a, t]) = true := by
      unfold Tm.related
      have e : (Tm.mk 11 k 0 0 [a, u]).erase = (Tm.mk 11 k 0 0 [a, t]).erase := by simp [Tm.erase, Tm.erases, he]
      rw [hm1, hm2, e, Tm.same_refl]; rfl
    have hel := Tm.erase_le m1
    rw [f75_ok _ u t (by omega) (by omega) (by omega) (by omega), Option.bind_some, hr1, if_pos rfl, f75_ok _ _ _ (by omega) (by omega) (by omega) (by omega), Option.bind_some, hr2, if_pos rfl, f67_ok _ u (by omega) (by omega), if_pos hm, Option.bind_some, f67_ok _ t (by omega) (by omega), if_pos m1, Option.bind_some, he, f68_ok _ _ _ (by omega) (by omega), Tm.same_refl, w73_true]
    rfl)
end Go.Proofs.Yteaglcbnkephgaa
