/-
  CheckExact as it is given. No condition.
-/
import Derived.Test.YtcaahmielncmpaaGreatFrame
import Derived.Test.YtcaahmielncmpaaGreatWhyCheckExact
set_option linter.unusedSimpArgs false
set_option linter.unusedVariables false
namespace Go.Proofs.YtcaahmielncmpaaGreat
open Go Go.ChangeShapes Go.WideShapes Go.ChangeAt Go.RowKit
set_option maxRecDepth 100000 in
theorem checkExact_lifted (os : Os) (started : os.Started) (H : Type) (enc : TypeId × Value → H) :
    ReturnsInHanded {} Tryz.checked os 4 .any (Rows.checkExactSpec.pre6 enc Tryz.prog Tryz.f4 Rows.checkExactRow.domain false) (Rows.checkExactSpec.post enc Tryz.prog Tryz.f4 false true false false) := by
  refine lift_true started (by kernel_rfl) Tryz.func4
    (ChangeSpec.witness6 (enc := enc) (C := Tryz.checked) false ⟨#[], #[.slice none 0 0, .agg #[.int .i64 0, .int .i64 0, .slice none 0 0], .float .f64 0], []⟩ 8 (by kernel_rfl) (by kernel_rfl) (by kernel_rfl) (by kernel_rfl)) rfl ?_ (by kernel_rfl) ?_ ?_
  · rw [Tryz.params4]
    intro t ht
    simp only [List.mem_cons, List.not_mem_nil, or_false] at ht
    rcases ht with rfl | rfl | rfl <;> exact ⟨by kernel_rfl, of_decide_eq_true (by kernel_rfl)⟩
  · intro ds hds
    rw [Tryz.params4] at hds
    match ds, hds with
    | [d0, d1, d2], _ => rfl
  · intro W base args ds ps hval hA
    rw [Tryz.params4] at hA hval
    generalize hargs : args.toList = l at hA
    have hget : ∀ j : Nat, l[j]? = args[j]? := fun j => by rw [← hargs]; simp
    obtain ⟨v0, l0, _, _, _, _, rfl, rfl, rfl, h0, hA⟩ := trodAll_cons hA
    obtain ⟨v1, l1, _, _, _, _, rfl, rfl, rfl, h1, hA⟩ := trodAll_cons hA
    obtain ⟨v2, l2, _, _, _, _, rfl, rfl, rfl, h2, hA⟩ := trodAll_cons hA
    obtain ⟨rfl, rfl, rfl⟩ := trodAll_nil hA
    have w0 := hval 0 22 v0 rfl (by rw [← hget]; rfl)
    obtain ⟨x0, r0, k0⟩ := arg_ents w0 h0
    have w1 := hval 1 41 v1 rfl (by rw [← hget]; rfl)
    obtain ⟨x1, r1, k1⟩ := arg_dv w1 h1
    have w2 := hval 2 42 v2 rfl (by rw [← hget]; rfl)
    obtain ⟨x2, r2⟩ := arg_flt w2
    exact ⟨[.one (.slice (x0.map entC)), .agg x1.cells, .one (.flt x2)], (fun c d a _ _ => checkExact_c c d a) x0 x1 x2 k0 k1, .cons r0 (.cons r1 (.cons r2 .nil))⟩
theorem checkExact_facts : joinedFacts Tryz.prog 4 Tryz.f4 Rows.checkExactSpec Rows.checkExactRow = true :=
  joined_of rfl (by kernel_rfl) Tryz.laid Tryz.mapsRows (by kernel_rfl) (by kernel_rfl) (by kernel_rfl) Tryz.noStops (by kernel_rfl) Tryz.noStopKnobs (by kernel_rfl) (by kernel_rfl) (by kernel_rfl) (by kernel_rfl) (by kernel_rfl) (by kernel_rfl) (by kernel_rfl) (by kernel_rfl) (by kernel_rfl) (by kernel_rfl) (by kernel_rfl) (by kernel_rfl) Tryz.plainKeysAre (by kernel_rfl) Tryz.heard Tryz.enters Tryz.lifts.symm Tryz.makes (by kernel_rfl) (by kernel_rfl) (by kernel_rfl) (by kernel_rfl) (by kernel_rfl)
theorem checkExact_holds : Rows.CheckExactSaid :=
  OpenClaim.holds_of_wide 4 Tryz.f4 rfl rfl rfl rfl rfl rfl rfl ⟨rfl, rfl, rfl, rfl, rfl⟩ rfl rfl rfl rfl rfl (by kernel_rfl) Tryz.func4 (checkExact_facts)
    (of_decide_eq_true (by kernel_rfl)) (by unfold Func.isWrapper; first | (rw [if_pos (by decide +kernel)]; kernel_rfl) | (rw [if_neg (by decide +kernel)]; exact ⟨rfl, rfl⟩))
    (fun os started H enc _ => checkExact_lifted os started H enc)
#print axioms checkExact_holds
end Go.Proofs.YtcaahmielncmpaaGreat
