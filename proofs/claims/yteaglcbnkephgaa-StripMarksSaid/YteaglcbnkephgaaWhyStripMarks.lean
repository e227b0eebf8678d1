/-
  The statement returns true.
-/
import Derived.Test.YteaglcbnkephgaaPlK
import Derived.Test.YteaglcbnkephgaaGenStripMarks
set_option linter.unusedSimpArgs false
set_option linter.unusedVariables false
namespace Go.Proofs.Yteaglcbnkephgaa
open Go
theorem w80_true (m : Nat) : f80 (m + 20) = some true := by kernel_rfl
theorem stripMarks_c (a b c : Tm) (i j : Int) : ACalls Try.prog 15 [.agg a.cells, .agg b.cells, .agg c.cells, .one (.int i), .one (.int j)] (.v (.one (.bool true))) true :=
  (ok15 (9980 + 20)).2 (a, b, c, i, j, ()) true (by
    show f15 (9980 + 20) a b c i j = some true
    simp only [f15, o15_0]
    rw [f62_ok _ a 300 (by omega) (by omega) (by omega), f62_ok _ b 300 (by omega) (by omega) (by omega), f62_ok _ c 300 (by omega) (by omega) (by omega), Option.bind_some, Option.bind_some, Option.bind_some]
    simp only [decide_eq_true_eq]
    by_cases ha : (300 : Int) < a.weigh 300 200
    · rw [if_pos ha]
    rw [if_neg ha]
    by_cases hb : (300 : Int) < b.weigh 300 200
    · rw [if_pos hb]
    rw [if_neg hb]
    by_cases hc : (300 : Int) < c.weigh 300 200
    · rw [if_pos hc]
    rw [if_neg hc]
    have hsa : a.size ≤ 300 := by have := Tm.great_size (by omega) ha; omega
    have hsb : b.size ≤ 300 := by have := Tm.great_size (by omega) hb; omega
    have hsc : c.size ≤ 300 := by have := Tm.great_size (by omega) hc; omega
    rw [f70_ok _ a (by omega) (by rw [BIG_eq]; omega), f70_ok _ b (by omega) (by rw [BIG_eq]; omega), f70_ok _ c (by omega) (by rw [BIG_eq]; omega), Option.bind_some, Option.bind_some, Option.bind_some]
    cases hma : a.marked with
    | false => rfl
    | true =>
    cases hmb : b.marked with
    | false => rfl
    | true =>
    cases hmc : c.marked with
    | false => rfl
    | true =>
    rw [if_neg (by simp), if_neg (by simp), if_neg (by simp)]
    by_cases h1 : i < 0
    · rw [if_pos h1]
    rw [if_neg h1]
    by_cases h2 : 1000 < i
    · rw [if_pos h2]
    rw [if_neg h2]
    by_cases h3 : j < 0
    · rw [if_pos h3]
    rw [if_neg h3]
    by_cases h4 : 1000 < j
    · rw [if_pos h4]
    rw [if_neg h4]
    simp only [c15_1, o15_1, Tm.eta]
    have hi : lev i = true := by simp [lev]; omega
    have hj : lev j = true := by simp [lev]; omega
    have h0 : lev 0 = true := by decide
    have mk4 : ∀ (x y z : Tm) (i j : Int), x.marked = true → y.marked = true → z.marked = true → lev i = true → lev j = true → x.size ≤ 300 → y.size ≤ 300 → z.size ≤ 300 → f79 (9980 + 20) (Tm.mk 4 i j 0 [x, y, z]) = some (.mk 14 0 0 0 [x.strip, z.strip]) := by
      intro x y z i j hx hy hz hi hj h1 h2 h3
      have hm : (Tm.mk 4 i j 0 [x, y, z]).marked = true := by simp [Tm.marked, Tm.markeds, Tm.node_mk, tkids, tnums, hx, hy, hz, hi, hj]
      have hsz : (Tm.mk 4 i j 0 [x, y, z]).size ≤ 901 := by simp [Tm.size, Tm.sizes]; omega
      rw [f79_ok _ _ (by omega) (by rw [BIG_eq]; omega)]
      unfold Tm.stripZ Tm.right
      rw [hm, Bool.true_or, if_pos rfl]
      simp [Tm.strip, Tm.strips]
    have mk5 : ∀ (x y z w : Tm) (i j : Int), x.marked = true → y.marked = true → z.marked = true → w.marked = true → lev i = true → lev j = true → x.size ≤ 300 → y.size ≤ 300 → z.size ≤ 300 → w.size ≤ 300 → f79 (9980 + 20) (Tm.mk 5 i j 0 [x, y, z, w]) = some (.mk 15 0 0 0 [z.strip, w.strip]) := by
      intro x y z w i j hx hy hz hw hi hj h1 h2 h3 h4
      have hm : (Tm.mk 5 i j 0 [x, y, z, w]).marked = true := by simp [Tm.marked, Tm.markeds, Tm.node_mk, tkids, tnums, hx, hy, hz, hw, hi, hj]
      have hsz : (Tm.mk 5 i j 0 [x, y, z, w]).size ≤ 1201 := by simp [Tm.size, Tm.sizes]; omega
      rw [f79_ok _ _ (by omega) (by rw [BIG_eq]; omega)]
      unfold Tm.stripZ Tm.right
      rw [hm, Bool.true_or, if_pos rfl]
      simp [Tm.strip, Tm.strips]
    have hza := Tm.strip_size a hma
    have hzc := Tm.strip_size c hmc
    have hs1 : (Tm.mk 14 0 0 0 [a.strip, c.strip]).size ≤ 601 := by simp [Tm.size, Tm.sizes]; omega
    have hs2 : (Tm.mk 15 0 0 0 [c.strip, c.strip]).size ≤ 601 := by simp [Tm.size, Tm.sizes]; omega
    rw [mk4 a b c i j hma hmb hmc hi hj hsa hsb hsc, mk4 a c c 0 0 hma hmc hmc h0 h0 hsa hsc hsc, mk5 a b c c i j hma hmb hmc hmc hi hj hsa hsb hsc hsc, mk5 b a c c 0 0 hmb hma hmc hmc h0 h0 hsb hsa hsc hsc]
    simp only [Option.bind_some]
    rw [f68_ok _ _ _ (by omega) (by rw [BIG_eq]; omega), f68_ok _ _ _ (by omega) (by rw [BIG_eq]; omega), Tm.same_refl, Tm.same_refl, w80_true]
    rfl)
end Go.Proofs.Yteaglcbnkephgaa
