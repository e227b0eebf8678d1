/-
  RuleExact as it is given. No condition.
-/
import Derived.Test.YtcaahmielncmpaaGreatFrame
import Derived.Test.YtcaahmielncmpaaGreatWhyRuleExact
set_option linter.unusedSimpArgs false
set_option linter.unusedVariables false
namespace Go.Proofs.YtcaahmielncmpaaGreat
open Go Go.ChangeShapes Go.WideShapes Go.ChangeAt Go.RowKit
set_option maxRecDepth 100000 in
theorem ruleExact_lifted (os : Os) (started : os.Started) (H : Type) (enc : TypeId × Value → H) :
    ReturnsInHanded {} Tryz.checked os 3 .any (Rows.ruleExactSpec.pre6 enc Tryz.prog Tryz.f3 Rows.ruleExactRow.domain false) (Rows.ruleExactSpec.post enc Tryz.prog Tryz.f3 false true false false) := by
  refine lift_true started (by kernel_rfl) Tryz.func3
    (ChangeSpec.witness6 (enc := enc) (C := Tryz.checked) false ⟨#[], #[.slice none 0 0, .int .i64 0, .int .i64 0, .slice none 0 0], []⟩ 8 (by kernel_rfl) (by kernel_rfl) (by kernel_rfl) (by kernel_rfl)) rfl ?_ (by kernel_rfl) ?_ ?_
  · rw [Tryz.params3]
    intro t ht
    simp only [List.mem_cons, List.not_mem_nil, or_false] at ht
    rcases ht with rfl | rfl | rfl | rfl <;> exact ⟨by kernel_rfl, of_decide_eq_true (by kernel_rfl)⟩
  · intro ds hds
    rw [Tryz.params3] at hds
    match ds, hds with
    | [d0, d1, d2, d3], _ => rfl
  · intro W base args ds ps hval hA
    rw [Tryz.params3] at hA hval
    generalize hargs : args.toList = l at hA
    have hget : ∀ j : Nat, l[j]? = args[j]? := fun j => by rw [← hargs]; simp
    obtain ⟨v0, l0, _, _, _, _, rfl, rfl, rfl, h0, hA⟩ := trodAll_cons hA
    obtain ⟨v1, l1, _, _, _, _, rfl, rfl, rfl, h1, hA⟩ := trodAll_cons hA
    obtain ⟨v2, l2, _, _, _, _, rfl, rfl, rfl, h2, hA⟩ := trodAll_cons hA
    obtain ⟨v3, l3, _, _, _, _, rfl, rfl, rfl, h3, hA⟩ := trodAll_cons hA
    obtain ⟨rfl, rfl, rfl⟩ := trodAll_nil hA
    have w0 := hval 0 22 v0 rfl (by rw [← hget]; rfl)
    obtain ⟨x0, r0, k0⟩ := arg_ents w0 h0
    have w1 := hval 1 3 v1 rfl (by rw [← hget]; rfl)
    obtain ⟨x1, r1, k1⟩ := arg_int w1 h1
    have w2 := hval 2 3 v2 rfl (by rw [← hget]; rfl)
    obtain ⟨x2, r2, k2⟩ := arg_int w2 h2
    have w3 := hval 3 23 v3 rfl (by rw [← hget]; rfl)
    obtain ⟨x3, r3, k3⟩ := arg_jds w3 h3
    exact ⟨[.one (.slice (x0.map entC)), .one (.int x1), .one (.int x2), .one (.slice (x3.map jdC))], (fun c r k js _ _ _ _ => ruleExact_c c r k js) x0 x1 x2 x3 k0 k1 k2 k3, .cons r0 (.cons r1 (.cons r2 (.cons r3 .nil)))⟩
theorem ruleExact_facts : joinedFacts Tryz.prog 3 Tryz.f3 Rows.ruleExactSpec Rows.ruleExactRow = true :=
  joined_of rfl (by kernel_rfl) Tryz.laid Tryz.mapsRows (by kernel_rfl) (by kernel_rfl) (by kernel_rfl) Tryz.noStops (by kernel_rfl) Tryz.noStopKnobs (by kernel_rfl) (by kernel_rfl) (by kernel_rfl) (by kernel_rfl) (by kernel_rfl) (by kernel_rfl) (by kernel_rfl) (by kernel_rfl) (by kernel_rfl) (by kernel_rfl) (by kernel_rfl) (by kernel_rfl) Tryz.plainKeysAre (by kernel_rfl) Tryz.heard Tryz.enters Tryz.lifts.symm Tryz.makes (by kernel_rfl) (by kernel_rfl) (by kernel_rfl) (by kernel_rfl) (by kernel_rfl)
theorem ruleExact_holds : Rows.RuleExactSaid :=
  OpenClaim.holds_of_wide 3 Tryz.f3 rfl rfl rfl rfl rfl rfl rfl ⟨rfl, rfl, rfl, rfl, rfl⟩ rfl rfl rfl rfl rfl (by kernel_rfl) Tryz.func3 (ruleExact_facts)
    (of_decide_eq_true (by kernel_rfl)) (by unfold Func.isWrapper; first | (rw [if_pos (by decide +kernel)]; kernel_rfl) | (rw [if_neg (by decide +kernel)]; exact ⟨rfl, rfl⟩))
    (fun os started H enc _ => ruleExact_lifted os started H enc)
#print axioms ruleExact_holds
end Go.Proofs.YtcaahmielncmpaaGreat
