/-
  The statement returns true.
-/
import Derived.Test.YtcaahmielncmpaaCtA
import Derived.Test.YtcaahmielncmpaaGenCtxExact
set_option linter.unusedSimpArgs false
set_option linter.unusedVariables false
namespace Go.Proofs.Ytcaahmielncmpaa
open Go
theorem w43_true (m : Nat) : f43 (m + 20) = some true := by kernel_rfl
theorem ctxExact_c (c : List Ent) (k : Int) : ACalls Try.prog 7 [.one (.slice (c.map entC)), .one (.int k)] (.v (.one (.bool true))) true :=
  (ok7 (9980 + 20)).2 (c, k, ()) true (by
    show f7 (9980 + 20) c k = some true
    simp only [f7, o7_0, ifB_eq]
    refine ctx_small (by omega) (by omega) (by omega) fun hs => ?_
    have hB : csize c ≤ BIG := by rw [BIG_eq]; omega
    have ht : (atC c k).1.size ≤ 300 := by
      unfold atC
      split
      · simp [tzero, Tm.size, Tm.sizes]
      · split
        · rename_i e he
          have := csize_mem (List.mem_of_getElem? he)
          have hl := Tm.liftZ_size (k + 1) 0 e.a
          show (Tm.liftZ (k + 1) 0 e.a).size ≤ 300
          omega
        · simp [tzero, Tm.size, Tm.sizes]
    rw [f39_ok _ c k (by omega) hB, f40_ok _ c k (by omega) hB, f41_ok _ c (by omega) hB, f42_ok _ c (by omega) hB, Option.bind_some, Option.bind_some, Option.bind_some, Option.bind_some]
    simp only [beq_self_eq_true, if_true, decide_true]
    rw [f23_ok _ _ _ (by omega) (by rw [BIG_eq]; omega), Tm.same_refl, Option.bind_some, if_pos rfl, w43_true]
    rfl)
end Go.Proofs.Ytcaahmielncmpaa
