/-
  The statement returns true.
-/
import Derived.Test.YtcaahmielncmpaaCtC
import Derived.Test.YtcaahmielncmpaaGenCtxForms
set_option linter.unusedSimpArgs false
set_option linter.unusedVariables false
namespace Go.Proofs.Ytcaahmielncmpaa
open Go
theorem w43_true (m : Nat) : f43 (m + 20) = some true := by kernel_rfl
theorem sames_refl (a : List Tm) : Tm.sames a a = true := (Tm.sames_iff a a).2 rfl
theorem ctxForms_c (c : List Ent) : ACalls Try.prog 8 [.one (.slice (c.map entC))] (.v (.one (.bool true))) true :=
  (ok8 (9980 + 20)).2 (c, ()) true (by
    show f8 (9980 + 20) c = some true
    simp only [f8, o8_0, ifB_eq]
    refine ctx_small (by omega) (by omega) (by omega) fun hc => ?_
    have hB : csize c ≤ BIG := by rw [BIG_eq]; omega
    have hsz := plainC_sizes c
    have hre := rightC_er (c := c) (k := 0)
    have hee := er_er (c := c) (k := 0)
    have hse := csize_er (c := c) (k := 0)
    simp only [c8_1, o8_1, c8_2, o8_2, ifB_eq]
    rw [f44_ok _ c (by omega) hB, Option.bind_some, f45_ok _ c (by omega) hB, f46_ok _ c (by omega) hB, f48_ok _ c (by omega) hB, Option.bind_some, Option.bind_some, Option.bind_some]
    have hec : csize (eraseC c) ≤ csize c := by
      unfold eraseC
      by_cases h : rightC 0 c = true
      · rw [if_pos h]; exact hse h
      · rw [if_neg h]; simp [csize]
    rw [f47_ok _ _ _ (by omega) (by omega), sameC_refl, Option.bind_some, if_neg (by simp), f50_ok _ c (by omega) hB, Option.bind_some, (f23_both _).2 _ _ (by omega) (by omega), sames_refl, Option.bind_some, if_neg (by simp), f42_ok _ c (by omega) hB, Option.bind_some]
    cases hr : rightC 0 c with
    | false =>
      have e1 : eraseC c = [] := by unfold eraseC; rw [if_neg (by simp [hr])]
      have e2 : plainC c = [] := by unfold plainC; rw [if_neg (by simp [hr])]
      rw [e1, e2, if_pos (by simp)]
      simp only [List.length_nil]
      rw [ckI_eq (by omega), if_pos (by simp), w43_true, Option.bind_some]
    | true =>
      have e1 : eraseC c = c.map Ent.er := by unfold eraseC; rw [if_pos hr]
      have e2 : plainC c = c.map (fun e => e.a.stripZ) := by unfold plainC; rw [if_pos hr]
      have e3 : eraseC (eraseC c) = eraseC c := by rw [e1]; unfold eraseC; rw [if_pos (hre hr), hee hr]
      rw [if_neg (by simp), f47_ok _ c c (by omega) hB, sameC_refl, Option.bind_some, if_pos rfl, f41_ok _ _ (by omega) (by omega), f45_ok _ _ (by omega) (by omega), e3, Option.bind_some, Option.bind_some, f47_ok _ _ _ (by omega) (by omega), sameC_refl, Option.bind_some, e1, e2, hre hr, if_pos rfl, if_pos (by simp), if_pos (by simp), if_pos rfl, w43_true, Option.bind_some])
end Go.Proofs.Ytcaahmielncmpaa
