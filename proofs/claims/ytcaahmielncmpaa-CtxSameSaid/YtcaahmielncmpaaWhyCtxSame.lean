/-
  The statement returns true.
-/
import Derived.Test.YtcaahmielncmpaaCtB
import Derived.Test.YtcaahmielncmpaaGenCtxSame
set_option linter.unusedSimpArgs false
set_option linter.unusedVariables false
namespace Go.Proofs.Ytcaahmielncmpaa
open Go
theorem w43_true (m : Nat) : f43 (m + 20) = some true := by kernel_rfl
theorem ctxSame_c (c d : List Ent) (a b : Jd) : ACalls Try.prog 10 [.one (.slice (c.map entC)), .one (.slice (d.map entC)), .agg (jdC a), .agg (jdC b)] (.v (.one (.bool true))) true :=
  (ok10 (9980 + 20)).2 (c, d, a, b, ()) true (by
    show f10 (9980 + 20) c d a b = some true
    simp only [f10, o10_0, ifB_eq]
    refine ctx_small (by omega) (by omega) (by omega) fun hc => ?_
    refine ctx_small (by omega) (by omega) (by omega) fun hd => ?_
    simp only [jd_eta, Jd.eta]
    obtain ⟨g, hg, hq⟩ := f53_ok (9980 + 20) [a, b] 300 (by omega) (by omega) (by omega)
    rw [hg, Option.bind_some]
    cases g with
    | true => rfl
    | false =>
    have hj := hq rfl
    simp only [jsize] at hj
    rw [if_neg (by simp)]
    have hB : csize c ≤ BIG := by rw [BIG_eq]; omega
    simp only [c10_1, o10_1, jd_eta, Jd.eta, ifB_eq]
    rw [f54_ok _ c d (by omega) hB, f47_ok _ c d (by omega) hB, Option.bind_some, Option.bind_some, beq_self_eq_true, if_pos rfl, f44_ok _ c (by omega) hB, Option.bind_some, f54_ok _ c c (by omega) hB, sameC_refl, Option.bind_some, if_pos rfl,
      f55_ok _ a b (by omega) (by rw [BIG_eq]; omega), f56_ok _ a b (by omega) (by rw [BIG_eq]; omega), Option.bind_some, Option.bind_some, beq_self_eq_true, if_pos rfl, f57_ok _ [b] (by simp only [jsize]; omega) (by simp only [jsize]; rw [BIG_eq]; omega), Option.bind_some,
      atI_eq (x := b) (by omega) rfl, f55_ok _ b b (by omega) (by rw [BIG_eq]; omega), sameJ_refl, Option.bind_some, if_pos rfl, w43_true]
    rfl)
end Go.Proofs.Ytcaahmielncmpaa
