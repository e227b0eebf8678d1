/-
  CheckLevels as it is given. No condition.
-/
import Derived.Test.YtcaahmielncmpaaFrame
import Derived.Test.YtcaahmielncmpaaWhyCheckLevels
set_option linter.unusedSimpArgs false
set_option linter.unusedVariables false
namespace Go.Proofs.Ytcaahmielncmpaa
open Go Go.ChangeShapes Go.WideShapes Go.ChangeAt Go.RowKit
set_option maxRecDepth 100000 in
theorem checkLevels_lifted (os : Os) (started : os.Started) (H : Type) (enc : TypeId × Value → H) :
    ReturnsInHanded {} Try.checked os 17 .any (Rows.checkLevelsSpec.pre6 enc Try.prog Try.f17 Rows.checkLevelsRow.domain false) (Rows.checkLevelsSpec.post enc Try.prog Try.f17 false true false false) := by
  refine lift_true started (by kernel_rfl) Try.func17
    (ChangeSpec.witness6 (enc := enc) (C := Try.checked) false ⟨#[], #[.slice none 0 0, .agg #[.int .i64 0, .int .i64 0, .slice none 0 0], .agg #[.int .i64 0, .int .i64 0, .slice none 0 0]], []⟩ 8 (by kernel_rfl) (by kernel_rfl) (by kernel_rfl) (by kernel_rfl)) rfl ?_ (by kernel_rfl) ?_ ?_
  · rw [Try.params17]
    intro t ht
    simp only [List.mem_cons, List.not_mem_nil, or_false] at ht
    rcases ht with rfl | rfl | rfl <;> exact ⟨by kernel_rfl, of_decide_eq_true (by kernel_rfl)⟩
  · intro ds hds
    rw [Try.params17] at hds
    match ds, hds with
    | [d0, d1, d2], _ => rfl
  · intro W base args ds ps hval hA
    rw [Try.params17] at hA hval
    generalize hargs : args.toList = l at hA
    have hget : ∀ j : Nat, l[j]? = args[j]? := fun j => by rw [← hargs]; simp
    obtain ⟨v0, l0, _, _, _, _, rfl, rfl, rfl, h0, hA⟩ := trodAll_cons hA
    obtain ⟨v1, l1, _, _, _, _, rfl, rfl, rfl, h1, hA⟩ := trodAll_cons hA
    obtain ⟨v2, l2, _, _, _, _, rfl, rfl, rfl, h2, hA⟩ := trodAll_cons hA
    obtain ⟨rfl, rfl, rfl⟩ := trodAll_nil hA
    have w0 := hval 0 64 v0 rfl (by rw [← hget]; rfl)
    obtain ⟨x0, r0, k0⟩ := arg_dvs w0 h0
    have w1 := hval 1 66 v1 rfl (by rw [← hget]; rfl)
    obtain ⟨x1, r1, k1⟩ := arg_dv w1 h1
    have w2 := hval 2 66 v2 rfl (by rw [← hget]; rfl)
    obtain ⟨x2, r2, k2⟩ := arg_dv w2 h2
    exact ⟨[.one (.slice (x0.map Dv.cells)), .agg x1.cells, .agg x2.cells], (fun l a b _ _ _ => checkLevels_c l a b) x0 x1 x2 k0 k1 k2, .cons r0 (.cons r1 (.cons r2 .nil))⟩
theorem checkLevels_facts : joinedFacts Try.prog 17 Try.f17 Rows.checkLevelsSpec Rows.checkLevelsRow = true :=
  joined_of rfl (by kernel_rfl) Try.laid Try.mapsRows (by kernel_rfl) (by kernel_rfl) (by kernel_rfl) Try.noStops (by kernel_rfl) Try.noStopKnobs (by kernel_rfl) (by kernel_rfl) (by kernel_rfl) (by kernel_rfl) (by kernel_rfl) (by kernel_rfl) (by kernel_rfl) (by kernel_rfl) (by kernel_rfl) (by kernel_rfl) (by kernel_rfl) (by kernel_rfl) Try.plainKeysAre (by kernel_rfl) Try.heard Try.enters Try.lifts.symm Try.makes (by kernel_rfl) (by kernel_rfl) (by kernel_rfl) (by kernel_rfl) (by kernel_rfl)
theorem checkLevels_holds : Rows.CheckLevelsSaid :=
  OpenClaim.holds_of_wide 17 Try.f17 rfl rfl rfl rfl rfl rfl rfl ⟨rfl, rfl, rfl, rfl, rfl⟩ rfl rfl rfl rfl rfl (by kernel_rfl) Try.func17 (checkLevels_facts)
    (of_decide_eq_true (by kernel_rfl)) (by unfold Func.isWrapper; first | (rw [if_pos (by decide +kernel)]; kernel_rfl) | (rw [if_neg (by decide +kernel)]; exact ⟨rfl, rfl⟩))
    (fun os started H enc _ => checkLevels_lifted os started H enc)
#print axioms checkLevels_holds
end Go.Proofs.Ytcaahmielncmpaa
