/-
  Plain facts on what the functions compute.
-/
import Derived.Test.YtcaahmielncmpaaPlQ
set_option linter.unusedSimpArgs false
set_option linter.unusedVariables false
namespace Go.Proofs.Ytcaahmielncmpaa
open Go
theorem f91_ok (k : Int) (hk0 : 0 ≤ k) (hk1 : k ≤ 9223372036854775807) : ∀ (n : Nat) (t : Tm) (f : Int), t.size < n → t.size ≤ BIG → t.right = true → 0 ≤ f → f + 2 * t.size ≤ 4 * BIG → f91 n t k f = some (out2 (Tm.lift k f t))
  | 0, t, f, h, _, _, _, _ => by omega
  | n + 1, t, f, h, hb, hr, hf, hd => by
    have hl := Tm.len_kids t
    have hBig := BIG_eq
    have hf' : ¬ 4611686018427387904 < f := by omega
    have hz : ∀ (i0 : Int), c91_1 (f91 n) n (l91_3 (f91 n) n n) k f t 0 0 0 0 t.kind i0 t.j t.n = match kidsM (fun i x => Tm.lift k (f + tbinds t.kind i) x) 0 t.kids with
        | some l => some (.mk t.kind i0 t.j t.n l, true)
        | none => some (tzero, false) := by
      intro i0
      simp only [c91_1, o91_1, ifB_eq]
      have := app_ok (L := fun m l i => l91_3 (f91 n) n m k f t 0 0 0 0 t.kind i0 t.j t.n l i) (ks := t.kids)
        (B := fun i x c => ckI (f + tbinds t.kind i) <| (f91 n x k (f + tbinds t.kind i)).bind fun r => if (!r.2) then some (Tm.mk 0 0 0 0 [], false) else c (Tm.mk r.1.kind r.1.i r.1.j r.1.n r.1.kids))
        (fin := fun l => some (Tm.mk t.kind i0 t.j t.n l, true)) (r0 := some (tzero, false)) (go := fun i x => Tm.lift k (f + tbinds t.kind i) x)
        (fun m l i => by simp only [l91_3, o91_3, c91_4, o91_4, f128_eq, Option.bind_some, hf', decide_false, Bool.false_eq_true, if_false, ifB_eq]) (by omega) t.kids [] [] n rfl rfl (by omega) (fun i x c hi _ => by
          have hx := mem_of_get hi
          have hxs := Tm.size_kid hx
          have hbr := tbinds_range t.kind (i : Int)
          rw [ckI_eq (by omega), f91_ok k hk0 hk1 n x _ (by omega) (by omega) (Tm.right_kid hr hx) (by omega) (by omega), Option.bind_some]
          cases Tm.lift k (f + tbinds t.kind i) x with
          | none => rfl
          | some y => simp [out2, Tm.eta])
      rw [len_nil] at this
      exact this
    simp only [f91, o91_0, ifB_eq]
    rw [Tm.lift_eq]
    by_cases hk : t.kind = 2
    · obtain ⟨v1, v2, v3, v4, v5⟩ := Tm.right_var hr hk
      rw [if_pos (by simpa using hk), if_pos hk]
      simp only [c91_2, o91_2, ifB_eq]
      by_cases hfi : f ≤ t.i
      · rw [if_pos (by simpa using hfi), if_pos hfi, ckI_eq (by omega)]
        by_cases hbig : 2147483647 - t.i < k
        · rw [if_pos (by simpa using hbig), if_pos hbig]
          rfl
        · rw [if_neg (by simpa using hbig), if_neg hbig, ckI_eq (by omega), hz, v5]
          rfl
      · rw [if_neg (by simpa using hfi), if_neg hfi, hz, v5]
        simp only [kidsM, out2]
        have := Tm.eta t
        rw [v5] at this
        rw [this]
    · rw [if_neg (by simpa using hk), if_neg hk]
      simp only [c91_2, o91_2, Bool.false_eq_true, if_false, ifB_eq]
      rw [hz]
      cases kidsM (fun i x => Tm.lift k (f + tbinds t.kind i) x) 0 t.kids <;> rfl

/-! ### the document's strip -/
end Go.Proofs.Ytcaahmielncmpaa
