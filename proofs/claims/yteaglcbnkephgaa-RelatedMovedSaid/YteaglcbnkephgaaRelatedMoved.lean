/-
  RelatedMoved as it is given. No condition.
-/
import Derived.Test.YteaglcbnkephgaaFrame
import Derived.Test.YteaglcbnkephgaaWhyRelatedMoved
set_option linter.unusedSimpArgs false
set_option linter.unusedVariables false
namespace Go.Proofs.Yteaglcbnkephgaa
open Go Go.ChangeShapes Go.WideShapes Go.ChangeAt Go.RowKit
set_option maxRecDepth 100000 in
theorem relatedMoved_lifted (os : Os) (started : os.Started) (H : Type) (enc : TypeId × Value → H) :
    ReturnsInHanded {} Try.checked os 12 .any (Rows.relatedMovedSpec.pre6 enc Try.prog Try.f12 Rows.relatedMovedRow.domain false) (Rows.relatedMovedSpec.post enc Try.prog Try.f12 false true false false) := by
  refine lift_true started (by kernel_rfl) Try.func12
    (ChangeSpec.witness6 (enc := enc) (C := Try.checked) false ⟨#[], #[.agg #[.int .i64 0, .int .i64 0, .int .i64 0, .int .i64 0, .slice none 0 0], .agg #[.int .i64 0, .int .i64 0, .int .i64 0, .int .i64 0, .slice none 0 0], .agg #[.int .i64 0, .int .i64 0, .int .i64 0, .int .i64 0, .slice none 0 0], .agg #[.int .i64 0, .int .i64 0, .int .i64 0, .int .i64 0, .slice none 0 0], .int .i64 0], []⟩ 8 (by kernel_rfl) (by kernel_rfl) (by kernel_rfl) (by kernel_rfl)) rfl ?_ (by kernel_rfl) ?_ ?_
  · rw [Try.params12]
    intro t ht
    simp only [List.mem_cons, List.not_mem_nil, or_false] at ht
    rcases ht with rfl | rfl | rfl | rfl | rfl <;> exact ⟨by kernel_rfl, of_decide_eq_true (by kernel_rfl)⟩
  · intro ds hds
    rw [Try.params12] at hds
    match ds, hds with
    | [d0, d1, d2, d3, d4], _ => rfl
  · intro W base args ds ps hval hA
    rw [Try.params12] at hA hval
    generalize hargs : args.toList = l at hA
    have hget : ∀ j : Nat, l[j]? = args[j]? := fun j => by rw [← hargs]; simp
    obtain ⟨v0, l0, _, _, _, _, rfl, rfl, rfl, h0, hA⟩ := trodAll_cons hA
    obtain ⟨v1, l1, _, _, _, _, rfl, rfl, rfl, h1, hA⟩ := trodAll_cons hA
    obtain ⟨v2, l2, _, _, _, _, rfl, rfl, rfl, h2, hA⟩ := trodAll_cons hA
    obtain ⟨v3, l3, _, _, _, _, rfl, rfl, rfl, h3, hA⟩ := trodAll_cons hA
    obtain ⟨v4, l4, _, _, _, _, rfl, rfl, rfl, h4, hA⟩ := trodAll_cons hA
    obtain ⟨rfl, rfl, rfl⟩ := trodAll_nil hA
    have w0 := hval 0 45 v0 rfl (by rw [← hget]; rfl)
    obtain ⟨x0, r0, k0⟩ := arg_tm w0 h0
    have w1 := hval 1 45 v1 rfl (by rw [← hget]; rfl)
    obtain ⟨x1, r1, k1⟩ := arg_tm w1 h1
    have w2 := hval 2 45 v2 rfl (by rw [← hget]; rfl)
    obtain ⟨x2, r2, k2⟩ := arg_tm w2 h2
    have w3 := hval 3 45 v3 rfl (by rw [← hget]; rfl)
    obtain ⟨x3, r3, k3⟩ := arg_tm w3 h3
    have w4 := hval 4 3 v4 rfl (by rw [← hget]; rfl)
    obtain ⟨x4, r4, k4⟩ := arg_int w4 h4
    exact ⟨[.agg x0.cells, .agg x1.cells, .agg x2.cells, .agg x3.cells, .one (.int x4)], (fun t a b c k _ _ _ _ _ => relatedMoved_c t a b c k) x0 x1 x2 x3 x4 k0 k1 k2 k3 k4, .cons r0 (.cons r1 (.cons r2 (.cons r3 (.cons r4 .nil))))⟩
theorem relatedMoved_facts : joinedFacts Try.prog 12 Try.f12 Rows.relatedMovedSpec Rows.relatedMovedRow = true :=
  joined_of rfl (by kernel_rfl) Try.laid Try.mapsRows (by kernel_rfl) (by kernel_rfl) (by kernel_rfl) Try.noStops (by kernel_rfl) Try.noStopKnobs (by kernel_rfl) (by kernel_rfl) (by kernel_rfl) (by kernel_rfl) (by kernel_rfl) (by kernel_rfl) (by kernel_rfl) (by kernel_rfl) (by kernel_rfl) (by kernel_rfl) (by kernel_rfl) (by kernel_rfl) Try.plainKeysAre (by kernel_rfl) Try.heard Try.enters Try.lifts.symm Try.makes (by kernel_rfl) (by kernel_rfl) (by kernel_rfl) (by kernel_rfl) (by kernel_rfl)
theorem relatedMoved_holds : Rows.RelatedMovedSaid :=
  OpenClaim.holds_of_wide 12 Try.f12 rfl rfl rfl rfl rfl rfl rfl ⟨rfl, rfl, rfl, rfl, rfl⟩ rfl rfl rfl rfl rfl (by kernel_rfl) Try.func12 (relatedMoved_facts)
    (of_decide_eq_true (by kernel_rfl)) (by unfold Func.isWrapper; first | (rw [if_pos (by decide +kernel)]; kernel_rfl) | (rw [if_neg (by decide +kernel)]; exact ⟨rfl, rfl⟩))
    (fun os started H enc _ => relatedMoved_lifted os started H enc)
#print axioms relatedMoved_holds
end Go.Proofs.Yteaglcbnkephgaa
