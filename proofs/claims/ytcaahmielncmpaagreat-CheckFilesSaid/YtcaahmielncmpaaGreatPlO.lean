/-
  Plain facts on what the functions compute.
-/
import Derived.Test.YtcaahmielncmpaaGreatPlN
set_option linter.unusedSimpArgs false
set_option linter.unusedVariables false
namespace Go.Proofs.YtcaahmielncmpaaGreat
open Go
theorem right_m {t : Tm} (h : t.marked = true) : t.right = true := by unfold Tm.right; rw [h, Bool.true_or]
theorem right_p {t : Tm} (h : t.plain = true) : t.right = true := by unfold Tm.right; rw [h, Bool.or_true]
/-! Erasing -/
theorem Tm.erase_low {t : Tm} (h : t.kind = 1 ∨ t.kind = 2) (hk : t.kids = []) : t.erase = t := by
  rw [Tm.erase_eq, if_neg (by omega), hk]
  have := Tm.eta t
  rw [hk] at this
  exact this
theorem Tm.erase_up (m : Int) (t : Tm) (hm : t.marked = true) : ∀ f, (Tm.up m f t).erase = Tm.up m f t.erase := by
  refine Tm.mark_ind (P := fun t => ∀ f, (Tm.up m f t).erase = Tm.up m f t.erase) ?_ ?_ ?_ ?_ ?_ _ t (Nat.lt_succ_self _) hm
  · intro t hm hk hks f
    rw [Tm.erase_low hk hks, Tm.erase_low]
    · rw [Tm.up_kind]; exact hk
    · rw [Tm.up_eq, hks]; split <;> rfl
  · intro k i j a b hk _ _ _ _ ha hb f
    rcases hk with rfl | rfl | rfl <;> simp [Tm.erase, Tm.erases, Tm.up, Tm.ups, ha, hb]
  · intro k i j a b c hk _ _ _ _ _ ha hb hc f
    rcases hk with rfl | rfl | rfl | rfl <;> simp [Tm.erase, Tm.erases, Tm.up, Tm.ups, ha, hb, hc]
  · intro k i j a b c d hk _ _ _ _ _ _ ha hb hc hd f
    rcases hk with rfl | rfl <;> simp [Tm.erase, Tm.erases, Tm.up, Tm.ups, ha, hb, hc, hd]
  · intro i a b c d _ hl _ _ hc _ ha hb hd f
    simp [Tm.erase, Tm.eraseAt, Tm.up, Tm.ups, tbinds, hd]
theorem Tm.erase_sb (σ τ : Bool → Nat → Tm) (h1 : ∀ a d, (Tm.up d 0 (σ false a)).erase = Tm.up d 0 (σ false a).erase) (h2 : ∀ a, τ false a = (σ false a).erase) (t : Tm) (hm : t.marked = true) : ∀ d, (Tm.sb σ d false t).erase = Tm.sb τ d false t.erase := by
  refine Tm.mark_ind (P := fun t => ∀ d, (Tm.sb σ d false t).erase = Tm.sb τ d false t.erase) ?_ ?_ ?_ ?_ ?_ _ t (Nat.lt_succ_self _) hm
  · intro t hm hk hks d
    rw [Tm.erase_low hk hks]
    rw [Tm.sb_eq, Tm.sb_eq, hks]
    by_cases h : t.kind = 2 ∧ d ≤ t.i
    · rw [if_pos h, if_pos h, h2]
      exact h1 _ d
    · rw [if_neg h, if_neg h]
      exact Tm.erase_low hk rfl
  · intro k i j a b hk _ _ _ _ ha hb d
    rcases hk with rfl | rfl | rfl <;> simp [Tm.erase, Tm.erases, Tm.sb, Tm.sbs, mode, ha, hb]
  · intro k i j a b c hk _ _ _ _ _ ha hb hc d
    rcases hk with rfl | rfl | rfl | rfl <;> simp [Tm.erase, Tm.erases, Tm.sb, Tm.sbs, mode, ha, hb, hc]
  · intro k i j a b c e hk _ _ _ _ _ _ ha hb hc he d
    rcases hk with rfl | rfl <;> simp [Tm.erase, Tm.erases, Tm.sb, Tm.sbs, mode, ha, hb, hc, he]
  · intro i a b c e _ _ _ _ hc _ ha hb he d
    simp [Tm.erase, Tm.eraseAt, Tm.sb, Tm.sbs, tbinds, mode, he]
theorem var_erase (a : Int) : (var a).erase = var a := Tm.erase_low (.inr rfl) rfl
theorem up_var0 (d a : Int) : ∃ b, Tm.up d 0 (var a) = var b := by rw [up_var]; split <;> exact ⟨_, rfl⟩
theorem erase_put (v t : Tm) (hv : v.marked = true) (ht : t.marked = true) (d : Int) : (Tm.sb (one v) d false t).erase = Tm.sb (one v.erase) d false t.erase :=
  Tm.erase_sb (one v) _ (fun a d => by
    cases a with
    | zero => exact Tm.erase_up d v hv 0
    | succ a =>
      show (Tm.up d 0 (var a)).erase = Tm.up d 0 (var a).erase
      obtain ⟨b, hb⟩ := up_var0 d a
      rw [var_erase, hb, var_erase]) (fun a => by
    cases a with
    | zero => rfl
    | succ a => exact (var_erase a).symm) t ht d
end Go.Proofs.YtcaahmielncmpaaGreat
