/-
  The statement returns true.
-/
import Derived.Test.YtcaahmielncmpaaGreatChC
import Derived.Test.YtcaahmielncmpaaGreatGenCheckExact
set_option linter.unusedSimpArgs false
set_option linter.unusedVariables false
namespace Go.Proofs.YtcaahmielncmpaaGreat
open Go
set_option maxRecDepth 20000
theorem f15_ok (n : Nat) (c : List Ent) (d : Dv) (hn : 2000 < n) : ∃ b, f15 n c d = some b ∧ (b = false → csize c ≤ 60 ∧ d.size ≤ 40) := by
  simp only [f15, o15_0, ifB_eq]
  obtain ⟨b, hb, hq⟩ := f26_ok n c 60 (by omega) (by omega) (by omega)
  rw [hb, Option.bind_some]
  cases b with
  | true => exact ⟨true, rfl, fun h => by cases h⟩
  | false =>
    have h1 := hq rfl
    rw [if_neg (by simp)]
    simp only [f45, o45_0]
    rw [f51_ok n d 40 200 (by omega) (by omega) (by omega) (by omega) (by omega), Option.bind_some, Option.bind_some]
    refine ⟨_, rfl, fun h => ?_⟩
    simp only [decide_eq_false_iff_not] at h
    have := Dv.great_size (d := d) (most := 40) (by omega) h
    omega
theorem f16_eq (m : Nat) : f16 m = some (hd m) := by
  simp only [f16, o16_0, ifB_eq]
  unfold hd
  split <;> rfl
theorem w20_true (m : Nat) : f20 (m + 20) = some true := by kernel_rfl
theorem jdg_bd {m : Nat} (hm : Held m) {c : List Ent} {d : Dv} (hd : d.size ≤ 800) (hb : Bd c 800) : jsz (jdg m c d).1 ≤ 1001 ∧ (jdg m c d).2.2.length ≤ 1000 := by
  have hz : jsz zeroJ ≤ 1001 := by decide
  unfold jdg
  cases hp : (pureC c && d.ok) with
  | false => exact ⟨hz, by show (0 : Nat) ≤ 1000; decide⟩
  | true =>
    simp only [if_true]
    cases hx : jg m c d with
    | ok J => exact ⟨jg_ok hm 800 d c J hd hb hx, by show (0 : Nat) ≤ 1000; decide⟩
    | error f =>
      obtain ⟨x, p⟩ := f
      obtain ⟨e1, e2⟩ := jg_err _ d c x p (Nat.le_refl _) hx
      exact ⟨hz, by simp; omega⟩
theorem checkExact_c (c : List Ent) (d : Dv) (a : Nat) : ACalls Tryz.prog 4 [.one (.slice (c.map entC)), .agg d.cells, .one (.flt a)] (.v (.one (.bool true))) true :=
  (ok4 (29999980 + 20)).2 (c, d, a, ()) true (by
    show f4 (29999980 + 20) c d a = some true
    have hB := BIG_eq
    obtain ⟨q, hq, hq2⟩ := f15_ok (29999980 + 20) c d (by omega)
    simp only [f4, o4_0, ifB_eq]
    rw [hq, Option.bind_some]
    cases q with
    | true => rfl
    | false =>
    obtain ⟨h1, h2⟩ := hq2 rfl
    have hb := Bd.small h1
    obtain ⟨k1, k2⟩ := jdg_bd (held_hd a) (d := d) (by omega) hb
    unfold jsz at k1
    rw [if_neg (by simp), f16_eq, Option.bind_some, f17_ok (held_hd a) (w := 800) (by omega) (by omega) (by omega) hb, Option.bind_some, f18_ok (held_hd a) (w := 800) (by omega) (by omega) (by omega) hb, Option.bind_some]
    generalize jdg (hd a) c d = x at k1 k2
    rw [if_pos (by simp), f19_ok _ _ _ (by omega) (by omega), decide_eq_true rfl, Option.bind_some, if_pos rfl, f11_ok _ _ _ (by omega) (by omega), sameJ_refl, Option.bind_some, if_pos rfl, w20_true, Option.bind_some])
end Go.Proofs.YtcaahmielncmpaaGreat
