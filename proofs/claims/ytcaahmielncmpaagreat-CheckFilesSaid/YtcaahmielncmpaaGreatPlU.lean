/-
  Plain facts on what the functions compute.
-/
import Derived.Test.YtcaahmielncmpaaGreatPlS
set_option linter.unusedSimpArgs false
set_option linter.unusedVariables false
namespace Go.Proofs.YtcaahmielncmpaaGreat
open Go
/-- The document's lift from a place that no variable reaches. -/
theorem f128_high (k : Int) : ∀ (n : Nat) (t : Tm) (f : Int), t.size < n → t.size ≤ BIG → t.right = true → 2147483648 ≤ f → f ≤ 9223372036854775807 → f128 n t k f = some (t, true)
  | 0, t, f, h, _, _, _, _ => by omega
  | n + 1, t, f, h, hb, hr, hf, hd => by
    have hl := Tm.len_kids t
    have hBig := BIG_eq
    have hz : c128_1 (f128 n) n (l128_3 (f128 n) n n) k f t 0 0 0 0 t.kind t.i t.j t.n = some (t, true) := by
      simp only [c128_1, o128_1, ifB_eq]
      have := app_ok (L := fun m l i => l128_3 (f128 n) n m k f t 0 0 0 0 t.kind t.i t.j t.n l i) (ks := t.kids)
        (B := fun i x c => ckI (f + (if 4611686018427387904 < f then 0 else tbinds t.kind i)) <| (f128 n x k (f + (if 4611686018427387904 < f then 0 else tbinds t.kind i))).bind fun r => if (!r.2) then some (Tm.mk 0 0 0 0 [], false) else c (Tm.mk r.1.kind r.1.i r.1.j r.1.n r.1.kids))
        (fin := fun l => some (Tm.mk t.kind t.i t.j t.n l, true)) (r0 := some (tzero, false)) (go := fun _ x => some x)
        (fun m l i => by
          by_cases hbig : 4611686018427387904 < f
          · simp only [l128_3, o128_3, c128_4, o128_4, f127_eq, Option.bind_some, hbig, decide_true, if_true, ifB_eq]
          · simp only [l128_3, o128_3, c128_4, o128_4, f127_eq, Option.bind_some, hbig, decide_false, Bool.false_eq_true, if_false, ifB_eq]) (by omega) t.kids [] [] n rfl rfl (by omega) (fun i x c hi _ => by
          have hx := mem_of_get hi
          have hxs := Tm.size_kid hx
          have hbr := tbinds_range t.kind (i : Int)
          have h1 : 0 ≤ (if 4611686018427387904 < f then 0 else tbinds t.kind i) ∧ f + (if 4611686018427387904 < f then 0 else tbinds t.kind i) ≤ 9223372036854775807 := by split <;> omega
          generalize (if 4611686018427387904 < f then 0 else tbinds t.kind i) = b at *
          show ckI (f + b) _ = c x
          rw [ckI_eq (by omega), f128_high k n x _ (by omega) (by omega) (Tm.right_kid hr hx) (by omega) (by omega), Option.bind_some]
          simp [Tm.eta])
      rw [len_nil, kidsM_id] at this
      simp only [List.nil_append, Tm.eta] at this
      exact this
    simp only [f128, o128_0, ifB_eq]
    by_cases hk : t.kind = 2
    · obtain ⟨v1, v2, v3, v4, v5⟩ := Tm.right_var hr hk
      rw [if_pos (by simpa using hk)]
      simp only [c128_2, o128_2, ifB_eq]
      rw [if_neg (by simp; omega), hz]
    · rw [if_neg (by simpa using hk)]
      simp only [c128_2, o128_2, Bool.false_eq_true, if_false, ifB_eq]
      rw [hz]
/-- The document's lift. -/
theorem f110_ok (n : Nat) (t : Tm) (k f : Int) (hk1 : k ≤ 9223372036854775807) (hf1 : f ≤ 9223372036854775807) (h : t.size < n) (hb : t.size ≤ BIG) : f110 n t k f = some (Tm.liftZ k f t) := by
  have hBig := BIG_eq
  simp only [f110, o110_0, ifB_eq]
  unfold Tm.liftZ
  rw [f108_ok n t h hb, Option.bind_some]
  cases hr : t.right with
  | false => rw [if_neg (by simp : ¬ (0 ≤ k ∧ 0 ≤ f ∧ false = true))]; rfl
  | true =>
    rw [if_neg (by simp : ¬ (!true) = true)]
    by_cases h0 : k < 0
    · rw [if_pos (by simpa using h0), if_neg (by omega)]; rfl
    · rw [if_neg (by simpa using h0)]
      by_cases h1 : f < 0
      · rw [if_pos (by simpa using h1), if_neg (by omega)]; rfl
      · rw [if_neg (by simpa using h1), if_pos ⟨by omega, by omega, rfl⟩]
        simp only [c110_1, o110_1, ifB_eq]
        have hfr := Tm.free_range t hr
        by_cases h2 : 2147483648 ≤ f
        · rw [f128_high k n t f h hb hr h2 hf1, Tm.lift_high k _ t f (Nat.lt_succ_self _) hr (by omega)]
          rfl
        · rw [f128_ok k (by omega) hk1 n t f h hb hr (by omega) (by omega), Option.bind_some]
          cases Tm.lift k f t <;> rfl
end Go.Proofs.YtcaahmielncmpaaGreat
