/-
  Plain facts on what the functions compute.
-/
import Derived.Test.YtcaahmielncmpaaPlR
set_option linter.unusedSimpArgs false
set_option linter.unusedVariables false
namespace Go.Proofs.Ytcaahmielncmpaa
open Go
theorem Tm.lift_size (k : Int) : ∀ (n : Nat) (t : Tm) (f : Int) (y : Tm), t.size < n → Tm.lift k f t = some y → y.size = t.size
  | 0, t, f, y, h, _ => by omega
  | n + 1, t, f, y, h, hy => by
    rw [Tm.lift_eq] at hy
    by_cases hk : t.kind = 2
    · rw [if_pos hk] at hy
      by_cases hd : f ≤ t.i
      · rw [if_pos hd] at hy
        by_cases h2 : 2147483647 - t.i < k
        · rw [if_pos h2] at hy; simp at hy
        · rw [if_neg h2] at hy; simp at hy; subst hy; rw [Tm.size_eq, Tm.size_eq t]; rfl
      · rw [if_neg hd] at hy
        simp at hy
        rw [hy]
    · rw [if_neg hk] at hy
      cases hl : kidsM (fun i x => Tm.lift k (f + tbinds t.kind i) x) 0 t.kids with
      | none => rw [hl] at hy; simp at hy
      | some l =>
        rw [hl] at hy
        simp at hy
        subst hy
        have := kidsM_size hl (fun j x y hx hxy => Tm.lift_size k n x _ y (by have := Tm.size_kid hx; omega) hxy)
        rw [Tm.size_eq, Tm.size_eq t, ← this]; rfl
theorem kidsM_size2 {go : Nat → Tm → Option Tm} {M : Nat} : ∀ {i : Nat} {l ys : List Tm}, kidsM go i l = some ys → (∀ (j : Nat) x y, x ∈ l → go j x = some y → y.size ≤ x.size * M) → Tm.sizes ys ≤ Tm.sizes l * M
  | _, [], ys, h, _ => by simp [kidsM] at h; subst h; simp [Tm.sizes]
  | i, x :: xs, ys, h, hg => by
    simp only [kidsM] at h
    cases h1 : go i x with
    | none => rw [h1] at h; simp at h
    | some y =>
      cases h2 : kidsM go (i + 1) xs with
      | none => rw [h1, h2] at h; simp at h
      | some zs =>
        rw [h1, h2] at h
        simp at h
        subst h
        have a1 := hg i x y (by simp) h1
        have a2 := kidsM_size2 h2 (fun j x y hx => hg j x y (by simp [hx]))
        simp only [Tm.sizes, Nat.add_mul]
        omega
end Go.Proofs.Ytcaahmielncmpaa
