/-
  Plain facts on what the functions compute.
-/
import Derived.Test.YtcaahmielncmpaaGreatPlE
set_option linter.unusedSimpArgs false
set_option linter.unusedVariables false
namespace Go.Proofs.YtcaahmielncmpaaGreat
open Go
/-! ## What is known of erasures -/
theorem Tm.count_mk (k i j n : Int) (l : List Tm) : (Tm.mk k i j n l).count = (if k = 12 then 1 else 0) + Tm.counts l := rfl
theorem counts_zero {l : List Tm} : Tm.counts l = 0 ↔ ∀ x ∈ l, x.count = 0 := by
  induction l with
  | nil => simp [Tm.counts]
  | cons x xs ih => simp [Tm.counts, ih]
theorem Tm.erase_count : ∀ (n : Nat) (t : Tm), t.size < n → t.marked = true → t.erase.count = 0
  | 0, t, h, _ => by omega
  | n + 1, t, h, hm => by
    rw [Tm.erase_eq]
    split
    · rename_i h12
      obtain ⟨x, hx, hxm, hxk, he⟩ := Tm.marked_last hm h12
      rw [he]
      exact Tm.erase_count n x (by have := Tm.size_kid hxk; omega) hxm
    · rename_i h12
      rw [Tm.count_mk, if_neg h12, Nat.zero_add, counts_zero]
      intro y hy
      obtain ⟨x, hx, rfl⟩ := List.mem_map.1 hy
      obtain ⟨j, hj⟩ := List.mem_iff_getElem?.1 hx
      exact Tm.erase_count n x (by have := Tm.size_kid hx; omega) (Tm.marked_kid hm hj (fun h => h12 h.1))
theorem Tm.erase_fix : ∀ (n : Nat) (t : Tm), t.size < n → t.count = 0 → t.erase = t
  | 0, t, h, _ => by omega
  | n + 1, t, h, hc => by
    rw [Tm.count_eq] at hc
    have h12 : t.kind ≠ 12 := fun h => by rw [if_pos h] at hc; omega
    rw [if_neg h12, Nat.zero_add, counts_zero] at hc
    rw [Tm.erase_eq, if_neg h12]
    have : t.kids.map Tm.erase = t.kids := by
      conv => rhs; rw [← List.map_id t.kids]
      exact List.map_congr_left fun x hx => Tm.erase_fix n x (by have := Tm.size_kid hx; omega) (hc x hx)
    rw [this, Tm.eta]
end Go.Proofs.YtcaahmielncmpaaGreat
