/-
  Plain facts on what the functions compute.
-/
import Derived.Test.YtcaahmielncmpaaGreatPlI
set_option linter.unusedSimpArgs false
set_option linter.unusedVariables false
namespace Go.Proofs.YtcaahmielncmpaaGreat
open Go
theorem kidsM_size {go : Nat → Tm → Option Tm} : ∀ {i : Nat} {l ys : List Tm}, kidsM go i l = some ys → (∀ (j : Nat) x y, x ∈ l → go j x = some y → y.size = x.size) → Tm.sizes ys = Tm.sizes l
  | _, [], ys, h, _ => by simp [kidsM] at h; subst h; rfl
  | i, x :: xs, ys, h, hg => by
    simp only [kidsM] at h
    cases h1 : go i x with
    | none => rw [h1] at h; simp at h
    | some y =>
      cases h2 : kidsM go (i + 1) xs with
      | none => rw [h1, h2] at h; simp at h
      | some zs =>
        rw [h1, h2] at h
        simp at h
        subst h
        simp only [Tm.sizes, hg i x y (by simp) h1, kidsM_size h2 (fun j x y hx => hg j x y (by simp [hx]))]
end Go.Proofs.YtcaahmielncmpaaGreat
