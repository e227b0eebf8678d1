/-
  Plain facts on what the functions compute.
-/
import Derived.Test.YtcaahmielncmpaaPlI
set_option linter.unusedSimpArgs false
set_option linter.unusedVariables false
namespace Go.Proofs.Ytcaahmielncmpaa
open Go
theorem kidsM_size {go : Nat → Tm → Option Tm} : ∀ {i : Nat} {l ys : List Tm}, kidsM go i l = some ys → (∀ (j : Nat) x y, x ∈ l → go j x = some y → y.size = x.size) → Tm.sizes ys = Tm.sizes l
  | _, [], ys, h, _ => by simp [kidsM] at h; subst h; rfl
  | i, x :: xs, ys, h, hg => by
    simp only [kidsM] at h
    cases h1 : go i x with
    | none => rw [h1] at h; simp at h
    | some y =>
      cases h2 : kidsM go (i + 1) xs with
      | none => rw [h1, h2] at h; simp at h
      | some zs =>
        rw [h1, h2] at h
        simp at h
        subst h
        simp only [Tm.sizes, hg i x y (by simp) h1, kidsM_size h2 (fun j x y hx => hg j x y (by simp [hx]))]
theorem Tm.renO_size (to : List Int) : ∀ (n : Nat) (t : Tm) (d : Int) (y : Tm), t.size < n → Tm.renO to d t = some y → y.size = t.size
  | 0, t, d, y, h, _ => by omega
  | n + 1, t, d, y, h, hy => by
    rw [Tm.renO_eq] at hy
    by_cases hk : t.kind = 2
    · rw [if_pos hk] at hy
      by_cases hd : d ≤ t.i
      · rw [if_pos hd] at hy
        cases hg : to[(t.i - d).toNat]? with
        | none => rw [hg] at hy; simp at hy
        | some x => rw [hg] at hy; simp at hy; subst hy; rw [Tm.size_eq, Tm.size_eq t]; rfl
      · rw [if_neg hd] at hy
        simp at hy
        rw [hy]
    · rw [if_neg hk] at hy
      cases hl : kidsM (fun i x => Tm.renO to (d + tbinds t.kind i) x) 0 t.kids with
      | none => rw [hl] at hy; simp at hy
      | some l =>
        rw [hl] at hy
        simp at hy
        subst hy
        have := kidsM_size hl (fun j x y hx hxy => Tm.renO_size to n x _ y (by have := Tm.size_kid hx; omega) hxy)
        rw [Tm.size_eq, Tm.size_eq t, ← this]; rfl
theorem Tm.rename_size (t : Tm) (to : List Int) : (t.rename to).1.size ≤ t.size ∨ (t.rename to).1 = tzero := by
  unfold Tm.rename
  split
  · cases h : Tm.renO to 0 t with
    | none => exact .inr rfl
    | some y => exact .inl (Nat.le_of_eq (Tm.renO_size to _ t 0 y (Nat.lt_succ_self _) h))
  · exact .inr rfl
def seg (k : Int) (c : Nat) : List Int := (List.range c).map fun (i : Nat) => (i : Int) + k
theorem seg_succ (k : Int) (c : Nat) : seg k (c + 1) = seg k c ++ [(c : Int) + k] := by simp [seg, List.range_succ]
theorem seg_length (k : Int) (c : Nat) : (seg k c).length = c := by simp [seg]
theorem seg_get (k : Int) (c j : Nat) (h : j < c) : (seg k c)[j]? = some ((j : Int) + k) := by simp [seg, h]
theorem seg_fine (k : Int) (c : Nat) (h0 : 0 ≤ k) (h : (c : Int) + k ≤ 1073741824) : Fine (seg k c) := by
  intro x hx
  simp [seg] at hx
  obtain ⟨a, ha, rfl⟩ := hx
  omega
theorem kidsM_up2 {go : Nat → Tm → Option Tm} {k kd f : Int} : ∀ {i : Nat} {l : List Tm}, (∀ (j : Nat) x, l[j]? = some x → go (i + j) x = some (Tm.up k (f + tbinds kd (i + j : Nat)) x)) → kidsM go i l = some (Tm.ups k kd f i l)
  | _, [], _ => rfl
  | i, x :: xs, h => by
    have h0 := h 0 x (by simp)
    rw [Nat.add_zero] at h0
    have := kidsM_up2 (go := go) (k := k) (kd := kd) (f := f) (i := i + 1) (l := xs) (fun j y hj => by have := h (j + 1) y (by simpa using hj); rwa [show i + (j + 1) = i + 1 + j by omega] at this)
    simp only [kidsM, h0, this, Tm.ups]
theorem Tm.renO_seg (k : Int) (c : Nat) : ∀ (n : Nat) (t : Tm) (d : Int), t.size < n → t.right = true → 0 ≤ d → t.free ≤ d + c → Tm.renO (seg k c) d t = some (Tm.up k d t)
  | 0, t, d, h, _, _, _ => by omega
  | n + 1, t, d, h, hr, hd0, hf => by
    rw [Tm.renO_eq, Tm.up_eq]
    rw [Tm.free_eq] at hf
    by_cases hk : t.kind = 2
    · rw [if_pos hk] at hf ⊢
      rw [if_pos hk]
      by_cases hd : d ≤ t.i
      · rw [if_pos hd, if_pos hd, seg_get k c _ (by omega)]
        show some _ = some _
        rw [show ((t.i - d).toNat : Int) + k + d = t.i + k by omega]
      · rw [if_neg hd, if_neg hd, Tm.eta]
    · rw [if_neg hk] at hf ⊢
      rw [if_neg hk, kidsM_up2 (k := k) (kd := t.kind) (f := d) (fun j x hj => by
        have hx := mem_of_get hj
        have := frees_get (k := t.kind) 0 t.kids j x hj
        have hb := tbinds_range t.kind ((0 + j : Nat) : Int)
        exact Tm.renO_seg k c n x _ (by have := Tm.size_kid hx; omega) (Tm.right_kid hr hx) (by omega) (by omega))]
theorem Tm.rename_seg (k : Int) (c : Nat) (t : Tm) (hr : t.right = true) (h0 : 0 ≤ k) (h : (c : Int) + k ≤ 1073741824) (hf : t.free ≤ c) : t.rename (seg k c) = (Tm.up k 0 t, true) := by
  unfold Tm.rename
  rw [if_pos ⟨(fine_iff _).2 (seg_fine k c h0 h), hr⟩, Tm.renO_seg k c _ t 0 (Nat.lt_succ_self _) hr (by omega) (by omega)]
  rfl
theorem Tm.up_zero (f : Int) (t : Tm) (hr : t.right = true) (hroom : t.room 0) : Tm.up 0 f t = t := by
  have := Tm.lift_up 0 (by omega) _ t f (Nat.lt_succ_self _) hr hroom
  rw [Tm.lift_zero _ t f (Nat.lt_succ_self _) hr] at this
  exact (Option.some.inj this).symm
end Go.Proofs.Ytcaahmielncmpaa
