/-
  Plain facts on what the functions compute.
-/
import Derived.Test.YtcaahmielncmpaaGreatCtA
set_option linter.unusedSimpArgs false
set_option linter.unusedVariables false
namespace Go.Proofs.YtcaahmielncmpaaGreat
open Go

/-! ## Judgments that are looked at, and their copies -/
theorem jd_eta (e : Bool) (u v a : Tm) (i : Int) : Jd.mk e (Tm.mk u.kind u.i u.j u.n u.kids) (Tm.mk v.kind v.i v.j v.n v.kids) (Tm.mk a.kind a.i a.j a.n a.kids) i = Jd.mk e u v a i := by simp only [Tm.eta]
theorem room184 {n : Nat} (h : n ≤ BIG / 2) : (decide ((n + 1) * 184 ≤ 140737488355328) && decide (n + 1 ≤ 9223372036854775807)) = true := by
  rw [BIG_eq] at h
  simp only [Bool.and_eq_true, decide_eq_true_eq]; omega
end Go.Proofs.YtcaahmielncmpaaGreat
