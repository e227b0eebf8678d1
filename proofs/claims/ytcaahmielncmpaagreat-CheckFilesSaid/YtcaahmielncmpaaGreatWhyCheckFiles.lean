/-
  The statement returns true.
-/
import Derived.Test.YtcaahmielncmpaaGreatChE
import Derived.Test.YtcaahmielncmpaaGreatGenCheckFiles
set_option linter.unusedSimpArgs false
set_option linter.unusedVariables false
namespace Go.Proofs.YtcaahmielncmpaaGreat
open Go
set_option maxRecDepth 20000
theorem f16_eq (m : Nat) : f16 m = some (hd m) := by
  simp only [f16, o16_0, ifB_eq]
  unfold hd
  split <;> rfl
theorem w20_true (m : Nat) : f20 (m + 20) = some true := by kernel_rfl
theorem checkFiles_c (F : Fl) (a : Nat) : ACalls Tryz.prog 5 [.agg (flC F), .one (.flt a)] (.v (.one (.bool true))) true :=
  (ok5 (29999980 + 20)).2 (F, a, ()) true (by
    show f5 (29999980 + 20) F a = some true
    have hB := BIG_eq
    obtain ⟨q, hq, hq2⟩ := f21_ok (29999980 + 20) F (by omega)
    simp only [f5, o5_0, ifB_eq]
    rw [hq, Option.bind_some]
    cases q with
    | true => rfl
    | false =>
    have hF := hq2 rfl
    have hm := held_hd a
    obtain ⟨w1, w2, w3⟩ := whole_bd hm hF
    obtain ⟨c1, c2⟩ := ctxO_bd hm (l := F.ctx) (by omega)
    have h24 : f24 (29999980 + 20) F.ctx (hd a) = some (ctxO (hd a) F.ctx) := f24_ok hm _ (by omega) F.ctx (by omega)
    unfold jsz at w2
    rw [if_neg (by simp), f16_eq, Option.bind_some, f22_ok hm _ (by omega) F hF, Option.bind_some, f23_ok hm _ (by omega) F hF, Option.bind_some, h24, Option.bind_some, f25_ok hm _ (by omega) F.ctx (by omega), Option.bind_some]
    generalize whole (hd a) F = x at w1 w2 w3
    generalize ctxO (hd a) F.ctx = y at c1 c2
    rw [if_pos (by simp), f19_ok _ _ _ (by omega) (by omega), decide_eq_true rfl, Option.bind_some, if_pos rfl, f12_ok _ _ _ (by omega) (by omega), sameC_refl, Option.bind_some, if_pos rfl, f11_ok _ _ _ (by omega) (by omega), sameJ_refl, Option.bind_some, if_pos rfl,
      if_pos (by simp), f19_ok _ _ _ (by omega) (by omega), decide_eq_true rfl, Option.bind_some, if_pos rfl, f12_ok _ _ _ (by omega) (by omega), sameC_refl, Option.bind_some, if_pos rfl, w20_true, Option.bind_some])
end Go.Proofs.YtcaahmielncmpaaGreat
