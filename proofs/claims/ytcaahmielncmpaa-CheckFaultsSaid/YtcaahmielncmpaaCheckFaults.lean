/-
  CheckFaults as it is given. No condition.
-/
import Derived.Test.YtcaahmielncmpaaFrame
import Derived.Test.YtcaahmielncmpaaWhyCheckFaults
set_option linter.unusedSimpArgs false
set_option linter.unusedVariables false
namespace Go.Proofs.Ytcaahmielncmpaa
open Go Go.ChangeShapes Go.WideShapes Go.ChangeAt Go.RowKit
set_option maxRecDepth 100000 in
theorem checkFaults_lifted (os : Os) (started : os.Started) (H : Type) (enc : TypeId × Value → H) :
    ReturnsInHanded {} Try.checked os 18 .any (Rows.checkFaultsSpec.pre6 enc Try.prog Try.f18 Rows.checkFaultsRow.domain false) (Rows.checkFaultsSpec.post enc Try.prog Try.f18 false true false false) := by
  refine lift_true started (by kernel_rfl) Try.func18
    (ChangeSpec.witness6 (enc := enc) (C := Try.checked) false ⟨#[], #[.slice none 0 0, .agg #[.int .i64 0, .int .i64 0, .slice none 0 0]], []⟩ 8 (by kernel_rfl) (by kernel_rfl) (by kernel_rfl) (by kernel_rfl)) rfl ?_ (by kernel_rfl) ?_ ?_
  · rw [Try.params18]
    intro t ht
    simp only [List.mem_cons, List.not_mem_nil, or_false] at ht
    rcases ht with rfl | rfl <;> exact ⟨by kernel_rfl, of_decide_eq_true (by kernel_rfl)⟩
  · intro ds hds
    rw [Try.params18] at hds
    match ds, hds with
    | [d0, d1], _ => rfl
  · intro W base args ds ps hval hA
    rw [Try.params18] at hA hval
    generalize hargs : args.toList = l at hA
    have hget : ∀ j : Nat, l[j]? = args[j]? := fun j => by rw [← hargs]; simp
    obtain ⟨v0, l0, _, _, _, _, rfl, rfl, rfl, h0, hA⟩ := trodAll_cons hA
    obtain ⟨v1, l1, _, _, _, _, rfl, rfl, rfl, h1, hA⟩ := trodAll_cons hA
    obtain ⟨rfl, rfl, rfl⟩ := trodAll_nil hA
    have w0 := hval 0 35 v0 rfl (by rw [← hget]; rfl)
    obtain ⟨x0, r0, k0⟩ := arg_ents w0 h0
    have w1 := hval 1 66 v1 rfl (by rw [← hget]; rfl)
    obtain ⟨x1, r1, k1⟩ := arg_dv w1 h1
    exact ⟨[.one (.slice (x0.map entC)), .agg x1.cells], (fun c d _ _ => checkFaults_c c d) x0 x1 k0 k1, .cons r0 (.cons r1 .nil)⟩
theorem checkFaults_facts : joinedFacts Try.prog 18 Try.f18 Rows.checkFaultsSpec Rows.checkFaultsRow = true :=
  joined_of rfl (by kernel_rfl) Try.laid Try.mapsRows (by kernel_rfl) (by kernel_rfl) (by kernel_rfl) Try.noStops (by kernel_rfl) Try.noStopKnobs (by kernel_rfl) (by kernel_rfl) (by kernel_rfl) (by kernel_rfl) (by kernel_rfl) (by kernel_rfl) (by kernel_rfl) (by kernel_rfl) (by kernel_rfl) (by kernel_rfl) (by kernel_rfl) (by kernel_rfl) Try.plainKeysAre (by kernel_rfl) Try.heard Try.enters Try.lifts.symm Try.makes (by kernel_rfl) (by kernel_rfl) (by kernel_rfl) (by kernel_rfl) (by kernel_rfl)
theorem checkFaults_holds : Rows.CheckFaultsSaid :=
  OpenClaim.holds_of_wide 18 Try.f18 rfl rfl rfl rfl rfl rfl rfl ⟨rfl, rfl, rfl, rfl, rfl⟩ rfl rfl rfl rfl rfl (by kernel_rfl) Try.func18 (checkFaults_facts)
    (of_decide_eq_true (by kernel_rfl)) (by unfold Func.isWrapper; first | (rw [if_pos (by decide +kernel)]; kernel_rfl) | (rw [if_neg (by decide +kernel)]; exact ⟨rfl, rfl⟩))
    (fun os started H enc _ => checkFaults_lifted os started H enc)
#print axioms checkFaults_holds
end Go.Proofs.Ytcaahmielncmpaa
