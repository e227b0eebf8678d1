/-
  CheckFiles as it is given. No condition.
-/
import Derived.Test.YtcaahmielncmpaaGreatFrame
import Derived.Test.YtcaahmielncmpaaGreatWhyCheckFiles
set_option linter.unusedSimpArgs false
set_option linter.unusedVariables false
namespace Go.Proofs.YtcaahmielncmpaaGreat
open Go Go.ChangeShapes Go.WideShapes Go.ChangeAt Go.RowKit
set_option maxRecDepth 100000 in
theorem checkFiles_lifted (os : Os) (started : os.Started) (H : Type) (enc : TypeId × Value → H) :
    ReturnsInHanded {} Tryz.checked os 5 .any (Rows.checkFilesSpec.pre6 enc Tryz.prog Tryz.f5 Rows.checkFilesRow.domain false) (Rows.checkFilesSpec.post enc Tryz.prog Tryz.f5 false true false false) := by
  refine lift_true started (by kernel_rfl) Tryz.func5
    (ChangeSpec.witness6 (enc := enc) (C := Tryz.checked) false ⟨#[], #[.agg #[.slice none 0 0, .int .i64 0, .int .i64 0, .slice none 0 0], .float .f64 0], []⟩ 8 (by kernel_rfl) (by kernel_rfl) (by kernel_rfl) (by kernel_rfl)) rfl ?_ (by kernel_rfl) ?_ ?_
  · rw [Tryz.params5]
    intro t ht
    simp only [List.mem_cons, List.not_mem_nil, or_false] at ht
    rcases ht with rfl | rfl <;> exact ⟨by kernel_rfl, of_decide_eq_true (by kernel_rfl)⟩
  · intro ds hds
    rw [Tryz.params5] at hds
    match ds, hds with
    | [d0, d1], _ => rfl
  · intro W base args ds ps hval hA
    rw [Tryz.params5] at hA hval
    generalize hargs : args.toList = l at hA
    have hget : ∀ j : Nat, l[j]? = args[j]? := fun j => by rw [← hargs]; simp
    obtain ⟨v0, l0, _, _, _, _, rfl, rfl, rfl, h0, hA⟩ := trodAll_cons hA
    obtain ⟨v1, l1, _, _, _, _, rfl, rfl, rfl, h1, hA⟩ := trodAll_cons hA
    obtain ⟨rfl, rfl, rfl⟩ := trodAll_nil hA
    have w0 := hval 0 52 v0 rfl (by rw [← hget]; rfl)
    obtain ⟨x0, r0, k0⟩ := arg_fl w0 h0
    have w1 := hval 1 42 v1 rfl (by rw [← hget]; rfl)
    obtain ⟨x1, r1⟩ := arg_flt w1
    exact ⟨[.agg (flC x0), .one (.flt x1)], (fun F a _ => checkFiles_c F a) x0 x1 k0, .cons r0 (.cons r1 .nil)⟩
theorem checkFiles_facts : joinedFacts Tryz.prog 5 Tryz.f5 Rows.checkFilesSpec Rows.checkFilesRow = true :=
  joined_of rfl (by kernel_rfl) Tryz.laid Tryz.mapsRows (by kernel_rfl) (by kernel_rfl) (by kernel_rfl) Tryz.noStops (by kernel_rfl) Tryz.noStopKnobs (by kernel_rfl) (by kernel_rfl) (by kernel_rfl) (by kernel_rfl) (by kernel_rfl) (by kernel_rfl) (by kernel_rfl) (by kernel_rfl) (by kernel_rfl) (by kernel_rfl) (by kernel_rfl) (by kernel_rfl) Tryz.plainKeysAre (by kernel_rfl) Tryz.heard Tryz.enters Tryz.lifts.symm Tryz.makes (by kernel_rfl) (by kernel_rfl) (by kernel_rfl) (by kernel_rfl) (by kernel_rfl)
theorem checkFiles_holds : Rows.CheckFilesSaid :=
  OpenClaim.holds_of_wide 5 Tryz.f5 rfl rfl rfl rfl rfl rfl rfl ⟨rfl, rfl, rfl, rfl, rfl⟩ rfl rfl rfl rfl rfl (by kernel_rfl) Tryz.func5 (checkFiles_facts)
    (of_decide_eq_true (by kernel_rfl)) (by unfold Func.isWrapper; first | (rw [if_pos (by decide +kernel)]; kernel_rfl) | (rw [if_neg (by decide +kernel)]; exact ⟨rfl, rfl⟩))
    (fun os started H enc _ => checkFiles_lifted os started H enc)
#print axioms checkFiles_holds
end Go.Proofs.YtcaahmielncmpaaGreat
