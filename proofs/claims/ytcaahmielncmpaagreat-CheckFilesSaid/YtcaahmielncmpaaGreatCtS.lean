/-
  Plain facts on what the functions compute.
-/
import Derived.Test.YtcaahmielncmpaaGreatCtA
set_option linter.unusedSimpArgs false
set_option linter.unusedVariables false
namespace Go.Proofs.YtcaahmielncmpaaGreat
open Go

/-! ## The size of what is put -/
theorem Tm.subO1_size (vs ps : List Tm) (M : Nat) (hM : 1 ≤ M) (hv : ∀ x ∈ vs, x.size ≤ M) (hp : ∀ x ∈ ps, x.size ≤ M) : ∀ (n : Nat) (t : Tm) (d : Int) (p : Bool) (y : Tm), t.size < n → Tm.subO vs ps true d p t = some y → y.size ≤ t.size * M
  | 0, t, d, p, y, h, _ => by omega
  | n + 1, t, d, p, y, h, hy => by
    rw [Tm.subO_eq] at hy
    have hge : M ≤ t.size * M := by
      have : 1 ≤ t.size := by rw [Tm.size_eq]; omega
      exact Nat.le_mul_of_pos_left M this
    by_cases hk : t.kind = 2 ∧ d ≤ t.i
    · rw [if_pos hk] at hy
      unfold Tm.pick at hy
      by_cases h1 : (vs.length : Int) ≤ t.i - d
      · rw [if_pos h1, if_pos rfl] at hy
        simp only [Option.some.injEq] at hy
        subst hy
        simp only [Tm.size, Tm.sizes]; omega
      · rw [if_neg h1] at hy
        cases hg : (if p = true then ps else vs)[(t.i - d).toNat]? with
        | none => rw [hg] at hy; simp at hy
        | some x =>
          rw [hg] at hy
          have hx : x.size ≤ M := by
            have := mem_of_get hg
            cases p with
            | true => exact hp x this
            | false => exact hv x this
          have := Tm.lift_size d _ x 0 y (Nat.lt_succ_self _) hy
          omega
    · rw [if_neg hk] at hy
      cases hl : kidsM (fun i x => Tm.subO vs ps true (d + tbinds t.kind i) (mode p t.kind i) x) 0 t.kids with
      | none => rw [hl] at hy; simp at hy
      | some l =>
        rw [hl] at hy
        simp at hy
        subst hy
        have := kidsM_size2 hl (M := M) (fun j x y hx hxy => Tm.subO1_size vs ps M hM hv hp n x _ _ y (by have := Tm.size_kid hx; omega) hxy)
        rw [Tm.size_eq, Tm.size_eq t, Nat.add_mul]
        show 1 + Tm.sizes l ≤ _
        omega
theorem Tm.putZ_size (t v : Tm) : (t.putZ v).size ≤ t.size * v.size := by
  have h1 := Tm.size_pos t
  have h2 := Tm.size_pos v
  have h0 : tzero.size ≤ t.size * v.size := by
    rw [tzero_size]
    exact Nat.mul_pos h1 h2
  unfold Tm.putZ Tm.suball
  split
  · split
    next h =>
      have hr : v.right = true := by
        have := List.all_eq_true.1 h v (by simp)
        unfold okv at this
        simp only [Bool.and_eq_true] at this
        exact this.1
      cases hs : Tm.subO [v] ([v].map Tm.strip) true 0 (decide (13 ≤ t.kind)) t with
      | none => exact h0
      | some y => exact Tm.subO1_size [v] _ v.size h2 (fun x hx => by simp at hx; subst hx; exact Nat.le_refl _) (fun x hx => by
          simp at hx; subst hx
          exact Tm.strip_size' v hr) _ t 0 _ y (Nat.lt_succ_self _) hs
    · exact h0
  · exact h0
end Go.Proofs.YtcaahmielncmpaaGreat
