/-
  Plain facts on what the functions compute.
-/
import Derived.Test.YtcaahmielncmpaaPlN
set_option linter.unusedSimpArgs false
set_option linter.unusedVariables false
namespace Go.Proofs.Ytcaahmielncmpaa
open Go
/-- Stripping and putting. -/
def strong (σ : Bool → Nat → Tm) : Bool → Nat → Tm := fun _ a => (σ false a).strip
theorem sb_mode {τ : Bool → Nat → Tm} (h : ∀ a, τ true a = τ false a) (t : Tm) (hr : t.right = true) : ∀ (d : Int) (p q : Bool), Tm.sb τ d p t = Tm.sb τ d q t := by
  refine Tm.right_ind (P := fun t => ∀ (d : Int) (p q : Bool), Tm.sb τ d p t = Tm.sb τ d q t) ?_ ?_ _ t (Nat.lt_succ_self _) hr
  · intro i _ _ d p q
    rw [sb_var, sb_var]
    cases p <;> cases q <;> simp [h]
  · intro k i j n ks hk _ ih d p q
    rw [sb_node _ _ _ _ _ _ _ _ hk, sb_node _ _ _ _ _ _ _ _ hk, kmap_congr0]
    intro a x ha
    exact (ih x (mem_of_get ha)).2 _ _ _
theorem sb_ptrue {σ τ : Bool → Nat → Tm} (h : ∀ a, τ true a = σ true a) (t : Tm) (hr : t.right = true) : ∀ (d : Int), Tm.sb τ d true t = Tm.sb σ d true t := by
  refine Tm.right_ind (P := fun t => ∀ (d : Int), Tm.sb τ d true t = Tm.sb σ d true t) ?_ ?_ _ t (Nat.lt_succ_self _) hr
  · intro i _ _ d
    rw [sb_var, sb_var]
    simp [h]
  · intro k i j n ks hk _ ih d
    rw [sb_node _ _ _ _ _ _ _ _ hk, sb_node _ _ _ _ _ _ _ _ hk, kmap_congr0]
    intro a x ha
    exact (ih x (mem_of_get ha)).2 _
theorem right_m {t : Tm} (h : t.marked = true) : t.right = true := by unfold Tm.right; rw [h, Bool.true_or]
theorem right_p {t : Tm} (h : t.plain = true) : t.right = true := by unfold Tm.right; rw [h, Bool.or_true]
theorem Tm.strip_sb (σ : Bool → Nat → Tm) (h1 : ∀ a d, (Tm.up d 0 (σ false a)).strip = Tm.up d 0 (σ false a).strip) (h2 : ∀ a, σ true a = (σ false a).strip) (t : Tm) (hm : t.marked = true) : ∀ d, (Tm.sb σ d false t).strip = Tm.sb (strong σ) d true t.strip := by
  refine Tm.mark_ind (P := fun t => ∀ d, (Tm.sb σ d false t).strip = Tm.sb (strong σ) d true t.strip) ?_ ?_ ?_ ?_ ?_ _ t (Nat.lt_succ_self _) hm
  · intro t hm hk hks d
    rw [Tm.low_strip hk]
    rw [Tm.sb_eq, Tm.sb_eq, hks]
    by_cases h : t.kind = 2 ∧ d ≤ t.i
    · rw [if_pos h, if_pos h]
      exact h1 _ d
    · rw [if_neg h, if_neg h]
      exact Tm.low_strip hk
  · intro k i j a b hk _ _ _ _ ha hb d
    rcases hk with rfl | rfl | rfl <;> simp [Tm.strip, Tm.strips, Tm.sb, Tm.sbs, tbinds, mode, ha, hb]
  · intro k i j a b c hk _ _ _ _ _ ha hb hc d
    rcases hk with rfl | rfl | rfl | rfl <;> simp [Tm.strip, Tm.strips, Tm.sb, Tm.sbs, tbinds, mode, ha, hb, hc]
  · intro k i j a b c e hk _ _ _ _ _ _ ha hb hc he d
    rcases hk with rfl | rfl <;> simp [Tm.strip, Tm.strips, Tm.sb, Tm.sbs, tbinds, mode, ha, hb, hc, he]
  · intro i a b c e _ _ _ _ hc _ ha hb he d
    have := sb_ptrue (σ := σ) (τ := strong σ) (fun a => (h2 a).symm) c (right_p hc) d
    simp [Tm.strip, Tm.strips, Tm.sb, Tm.sbs, tbinds, mode, ha, hb, he, this]
/-! Erasing -/
theorem Tm.erase_low {t : Tm} (h : t.kind = 1 ∨ t.kind = 2) (hk : t.kids = []) : t.erase = t := by
  rw [Tm.erase_eq, if_neg (by omega), hk]
  have := Tm.eta t
  rw [hk] at this
  exact this
theorem Tm.erase_up (m : Int) (t : Tm) (hm : t.marked = true) : ∀ f, (Tm.up m f t).erase = Tm.up m f t.erase := by
  refine Tm.mark_ind (P := fun t => ∀ f, (Tm.up m f t).erase = Tm.up m f t.erase) ?_ ?_ ?_ ?_ ?_ _ t (Nat.lt_succ_self _) hm
  · intro t hm hk hks f
    rw [Tm.erase_low hk hks, Tm.erase_low]
    · rw [Tm.up_kind]; exact hk
    · rw [Tm.up_eq, hks]; split <;> rfl
  · intro k i j a b hk _ _ _ _ ha hb f
    rcases hk with rfl | rfl | rfl <;> simp [Tm.erase, Tm.erases, Tm.up, Tm.ups, ha, hb]
  · intro k i j a b c hk _ _ _ _ _ ha hb hc f
    rcases hk with rfl | rfl | rfl | rfl <;> simp [Tm.erase, Tm.erases, Tm.up, Tm.ups, ha, hb, hc]
  · intro k i j a b c d hk _ _ _ _ _ _ ha hb hc hd f
    rcases hk with rfl | rfl <;> simp [Tm.erase, Tm.erases, Tm.up, Tm.ups, ha, hb, hc, hd]
  · intro i a b c d _ hl _ _ hc _ ha hb hd f
    simp [Tm.erase, Tm.eraseAt, Tm.up, Tm.ups, tbinds, hd]
theorem Tm.erase_sb (σ τ : Bool → Nat → Tm) (h1 : ∀ a d, (Tm.up d 0 (σ false a)).erase = Tm.up d 0 (σ false a).erase) (h2 : ∀ a, τ false a = (σ false a).erase) (t : Tm) (hm : t.marked = true) : ∀ d, (Tm.sb σ d false t).erase = Tm.sb τ d false t.erase := by
  refine Tm.mark_ind (P := fun t => ∀ d, (Tm.sb σ d false t).erase = Tm.sb τ d false t.erase) ?_ ?_ ?_ ?_ ?_ _ t (Nat.lt_succ_self _) hm
  · intro t hm hk hks d
    rw [Tm.erase_low hk hks]
    rw [Tm.sb_eq, Tm.sb_eq, hks]
    by_cases h : t.kind = 2 ∧ d ≤ t.i
    · rw [if_pos h, if_pos h, h2]
      exact h1 _ d
    · rw [if_neg h, if_neg h]
      exact Tm.erase_low hk rfl
  · intro k i j a b hk _ _ _ _ ha hb d
    rcases hk with rfl | rfl | rfl <;> simp [Tm.erase, Tm.erases, Tm.sb, Tm.sbs, mode, ha, hb]
  · intro k i j a b c hk _ _ _ _ _ ha hb hc d
    rcases hk with rfl | rfl | rfl | rfl <;> simp [Tm.erase, Tm.erases, Tm.sb, Tm.sbs, mode, ha, hb, hc]
  · intro k i j a b c e hk _ _ _ _ _ _ ha hb hc he d
    rcases hk with rfl | rfl <;> simp [Tm.erase, Tm.erases, Tm.sb, Tm.sbs, mode, ha, hb, hc, he]
  · intro i a b c e _ _ _ _ hc _ ha hb he d
    simp [Tm.erase, Tm.eraseAt, Tm.sb, Tm.sbs, tbinds, mode, he]
theorem Tm.erase_marked' {t : Tm} (h : t.marked = true) : t.erase.marked = true := Tm.erase_marked _ t (Nat.lt_succ_self _) h
theorem Tm.erase_free {t : Tm} (h : t.marked = true) : t.erase.free ≤ t.free := by
  refine Tm.mark_ind (P := fun t => t.erase.free ≤ t.free) ?_ ?_ ?_ ?_ ?_ _ t (Nat.lt_succ_self _) h
  · intro t hm hk hks
    rw [Tm.erase_low hk hks]; omega
  · intro k i j a b hk _ _ _ _ ha hb
    rcases hk with rfl | rfl | rfl <;> simp [Tm.erase, Tm.erases, Tm.free, Tm.frees, tbinds] <;> omega
  · intro k i j a b c hk _ _ _ _ _ ha hb hc
    rcases hk with rfl | rfl | rfl | rfl <;> simp [Tm.erase, Tm.erases, Tm.free, Tm.frees, tbinds] <;> omega
  · intro k i j a b c d hk _ _ _ _ _ _ ha hb hc hd
    rcases hk with rfl | rfl <;> simp [Tm.erase, Tm.erases, Tm.free, Tm.frees, tbinds] <;> omega
  · intro i a b c d _ hl _ _ hc _ ha hb hd
    simp [Tm.erase, Tm.eraseAt, Tm.free, Tm.frees, tbinds]; omega
theorem var_strip (a : Int) : (var a).strip = var a := Tm.low_strip (.inr rfl)
theorem var_erase (a : Int) : (var a).erase = var a := Tm.erase_low (.inr rfl) rfl
theorem up_var0 (d a : Int) : ∃ b, Tm.up d 0 (var a) = var b := by rw [up_var]; split <;> exact ⟨_, rfl⟩
theorem strip_put (v t : Tm) (hv : v.marked = true) (ht : t.marked = true) (d : Int) (p : Bool) : (Tm.sb (one v) d false t).strip = Tm.sb (one v.strip) d p t.strip := by
  have hp := Tm.strip_plain v hv
  rw [Tm.strip_sb (one v) (fun a d => by
    cases a with
    | zero => exact Tm.strip_up' d v (right_m hv) 0
    | succ a =>
      show (Tm.up d 0 (var a)).strip = Tm.up d 0 (var a).strip
      obtain ⟨b, hb⟩ := up_var0 d a
      rw [var_strip, hb, var_strip]) (fun a => by
    cases a with
    | zero => rfl
    | succ a => exact (var_strip a).symm) t ht d]
  have e : strong (one v) = one v.strip := by
    funext p a
    cases a with
    | zero => cases p <;> simp [strong, one, Tm.plain_strip hp]
    | succ a => exact var_strip a
  rw [e]
  exact sb_mode (fun a => by
    cases a with
    | zero => simp [one, Tm.plain_strip hp]
    | succ a => rfl) _ (right_p (Tm.strip_plain t ht)) d true p
theorem erase_put (v t : Tm) (hv : v.marked = true) (ht : t.marked = true) (d : Int) : (Tm.sb (one v) d false t).erase = Tm.sb (one v.erase) d false t.erase :=
  Tm.erase_sb (one v) _ (fun a d => by
    cases a with
    | zero => exact Tm.erase_up d v hv 0
    | succ a =>
      show (Tm.up d 0 (var a)).erase = Tm.up d 0 (var a).erase
      obtain ⟨b, hb⟩ := up_var0 d a
      rw [var_erase, hb, var_erase]) (fun a => by
    cases a with
    | zero => rfl
    | succ a => exact (var_erase a).symm) t ht d
end Go.Proofs.Ytcaahmielncmpaa
