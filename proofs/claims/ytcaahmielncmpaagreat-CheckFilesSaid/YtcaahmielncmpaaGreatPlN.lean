/-
  Plain facts on what the functions compute.
-/
import Derived.Test.YtcaahmielncmpaaGreatPlM
set_option linter.unusedSimpArgs false
set_option linter.unusedVariables false
namespace Go.Proofs.YtcaahmielncmpaaGreat
open Go
theorem marked_kind {v : Tm} (h : v.marked = true) : 1 ≤ v.kind ∧ v.kind ≤ 12 := by
  rw [Tm.marked_eq] at h
  simp only [Bool.and_eq_true, decide_eq_true_eq] at h
  exact h.1
theorem plain_kind' {v : Tm} (h : v.plain = true) : v.kind = 1 ∨ v.kind = 2 ∨ 13 ≤ v.kind := by
  rw [Tm.plain_eq] at h
  simp only [Bool.and_eq_true, Bool.or_eq_true, decide_eq_true_eq] at h
  have := h.1
  omega
theorem okv_of {t v : Tm} (hr : v.right = true) (h : t.kind = 1 ∨ t.kind = 2 ∨ t.plain = true ∨ v.marked = true) : okv t v = true := by
  unfold okv
  rw [hr]
  simp only [Bool.true_and, Bool.or_eq_true, decide_eq_true_eq]
  rcases h with h | h | h | h
  · omega
  · omega
  · have := plain_kind' h; omega
  · have := marked_kind h; omega
theorem Tm.up_kind (k f : Int) (t : Tm) : (Tm.up k f t).kind = t.kind := by rw [Tm.up_eq]; split <;> rfl
theorem liftZ_up (k f : Int) (t : Tm) (hk : 0 ≤ k) (hf : 0 ≤ f) (hr : t.right = true) (hroom : t.room k) : Tm.liftZ k f t = Tm.up k f t := by
  unfold Tm.liftZ; rw [if_pos ⟨hk, hf, hr⟩, Tm.lift_up k hk _ t f (Nat.lt_succ_self _) hr hroom]; rfl
/-- The free variables of a term after putting. -/
theorem Tm.sb_free (v : Tm) (F : Int) (hF0 : 0 ≤ F) (h1 : v.free ≤ F) (h2 : v.strip.free ≤ F) (t : Tm) (hr : t.right = true) : ∀ (d : Int) (p : Bool), 0 ≤ d → (Tm.sb (one v) d p t).free ≤ max (t.free - 1) (d + F) := by
  refine Tm.right_ind (P := fun t => ∀ (d : Int) (p : Bool), 0 ≤ d → (Tm.sb (one v) d p t).free ≤ max (t.free - 1) (d + F)) ?_ ?_ _ t (Nat.lt_succ_self _) hr
  · intro i h0 _ d p hd
    rw [sb_var, free_var]
    by_cases h : d ≤ i
    · rw [if_pos h]
      match hb : (i - d).toNat with
      | 0 =>
        have hx : (one v p 0).free ≤ F := by unfold one; dsimp only; split <;> assumption
        rw [Tm.up_free d hd 0 _ (by omega)]
        split <;> omega
      | b + 1 =>
        show (Tm.up d 0 (var b)).free ≤ _
        rw [up_var, if_pos (by omega), free_var]
        omega
    · rw [if_neg h, free_var]; omega
  · intro k i j n ks hk _ ih d p hd
    rw [sb_node _ _ _ _ _ _ _ _ hk, free_node hk, free_node hk]
    refine frees_kmap (by omega) (fun a x ha => ?_)
    rw [Nat.zero_add]
    have hb := tbinds_range k (a : Int)
    have := (ih x (mem_of_get ha)).2 (d + tbinds k a) (mode p k a) (by omega)
    have := frees_at (k := k) ha
    omega
/-- The sort of a term after putting. -/
theorem plains_kmap {g : Nat → Tm → Tm} : ∀ {i : Nat} {l : List Tm}, (∀ (j : Nat) x, l[j]? = some x → (g (i + j) x).plain = true) → Tm.plains (kmap g i l) = true
  | _, [], _ => rfl
  | i, x :: xs, h => by
    have h0 := h 0 x (by simp)
    rw [Nat.add_zero] at h0
    have := plains_kmap (g := g) (i := i + 1) (l := xs) (fun j y hj => by have := h (j + 1) y (by simpa using hj); rwa [show i + (j + 1) = i + 1 + j by omega] at this)
    simp only [kmap, Tm.plains, h0, this, Bool.and_self]
theorem markeds_kmap {g : Nat → Tm → Tm} {k : Int} : ∀ {i : Nat} {l : List Tm}, Tm.markeds k i l = true → (∀ (j : Nat) x, l[j]? = some x → ((k = 12 ∧ i + j = 2) → x.plain = true → (g (i + j) x).plain = true) ∧ (¬ (k = 12 ∧ i + j = 2) → x.marked = true → (g (i + j) x).marked = true)) → Tm.markeds k i (kmap g i l) = true
  | _, [], _, _ => rfl
  | i, x :: xs, hm, h => by
    have h0 := h 0 x (by simp)
    rw [Nat.add_zero] at h0
    simp only [Tm.markeds, Bool.and_eq_true] at hm
    have := markeds_kmap (g := g) (k := k) (i := i + 1) (l := xs) hm.2 (fun j y hj => by have := h (j + 1) y (by simpa using hj); rwa [show i + (j + 1) = i + 1 + j by omega] at this)
    simp only [kmap, Tm.markeds, this, Bool.and_true]
    by_cases h12 : k = 12 ∧ i = 2
    · rw [if_pos h12] at hm ⊢
      exact h0.1 h12 hm.1
    · rw [if_neg h12] at hm ⊢
      exact h0.2 h12 hm.1
theorem plain_get {l : List Tm} (h : Tm.plains l = true) {j : Nat} {x : Tm} (hx : l[j]? = some x) : x.plain = true := by
  induction l generalizing j with
  | nil => simp at hx
  | cons y ys ih =>
    simp only [Tm.plains, Bool.and_eq_true] at h
    cases j with
    | zero => simp at hx; rw [← hx]; exact h.1
    | succ j => exact ih h.2 (by simpa using hx)
theorem var_sort (i : Int) (h0 : 0 ≤ i) (h1 : i ≤ 2147483647) : (var i).plain = true ∧ (var i).marked = true := by
  simp [var, Tm.plain, Tm.marked, Tm.node_mk, tkids, tnums, Tm.plains, Tm.markeds, h0, h1]
theorem Tm.sb_plain (v : Tm) (D : Int) (hv : v.strip.plain = true) (hroom : v.strip.room D) (t : Tm) (hr : t.right = true) : ∀ (d : Int), t.plain = true → 0 ≤ d → d + 2 * t.deep ≤ D → (Tm.sb (one v) d true t).plain = true := by
  refine Tm.right_ind (P := fun t => ∀ (d : Int), t.plain = true → 0 ≤ d → d + 2 * t.deep ≤ D → (Tm.sb (one v) d true t).plain = true) ?_ ?_ _ t (Nat.lt_succ_self _) hr
  · intro i h0 h1 d _ hd hD
    rw [sb_var]
    by_cases h : d ≤ i
    · rw [if_pos h]
      match hb : (i - d).toNat with
      | 0 =>
        show (Tm.up d 0 v.strip).plain = true
        rw [(Tm.up_sort d hd _ v.strip 0 (Nat.lt_succ_self _) (by unfold Tm.right; simp [hv]) (by unfold Tm.room at *; omega)).2, hv]
      | b + 1 =>
        show (Tm.up d 0 (var b)).plain = true
        rw [up_var, if_pos (by omega)]
        exact (var_sort _ (by omega) (by omega)).1
    · rw [if_neg h]; exact (var_sort i h0 h1).1
  · intro k i j n ks hk _ ih d hp hd hD
    rw [sb_node _ _ _ _ _ _ _ _ hk]
    have hp' := hp
    simp only [Tm.plain, Bool.and_eq_true] at hp ⊢
    refine ⟨hp.1, ?_, ?_⟩
    · rw [Tm.node_mk, kmap_length]; exact hp.2.1
    · refine plains_kmap (fun a x ha => ?_)
      rw [Nat.zero_add]
      have hb := tbinds_range k (a : Int)
      have hdk := Tm.deep_kid (t := .mk k i j n ks) (mem_of_get ha)
      exact (ih x (mem_of_get ha)).2 _ (plain_get hp.2.2 ha) (by omega) (by omega)
theorem Tm.sb_marked (v : Tm) (D : Int) (hm : v.marked = true) (hv : v.strip.plain = true) (hroom : v.strip.room D) (hroom2 : v.room D) (t : Tm) (hr : t.right = true) : ∀ (d : Int), t.marked = true → 0 ≤ d → d + 2 * t.deep ≤ D → (Tm.sb (one v) d false t).marked = true := by
  refine Tm.right_ind (P := fun t => ∀ (d : Int), t.marked = true → 0 ≤ d → d + 2 * t.deep ≤ D → (Tm.sb (one v) d false t).marked = true) ?_ ?_ _ t (Nat.lt_succ_self _) hr
  · intro i h0 h1 d _ hd hD
    rw [sb_var]
    by_cases h : d ≤ i
    · rw [if_pos h]
      match hb : (i - d).toNat with
      | 0 =>
        show (Tm.up d 0 v).marked = true
        rw [(Tm.up_sort d hd _ v 0 (Nat.lt_succ_self _) (by unfold Tm.right; simp [hm]) (by unfold Tm.room at *; omega)).1, hm]
      | b + 1 =>
        show (Tm.up d 0 (var b)).marked = true
        rw [up_var, if_pos (by omega)]
        exact (var_sort _ (by omega) (by omega)).2
    · rw [if_neg h]; exact (var_sort i h0 h1).2
  · intro k i j n ks hk _ ih d hp hd hD
    rw [sb_node _ _ _ _ _ _ _ _ hk]
    simp only [Tm.marked, Bool.and_eq_true] at hp ⊢
    refine ⟨hp.1, ?_, ?_⟩
    · rw [Tm.node_mk, kmap_length]; exact hp.2.1
    · refine markeds_kmap hp.2.2 (fun a x ha => ?_)
      rw [Nat.zero_add]
      have hb := tbinds_range k (a : Int)
      have hdk := Tm.deep_kid (t := .mk k i j n ks) (mem_of_get ha)
      constructor
      · rintro ⟨rfl, rfl⟩ hx
        exact Tm.sb_plain v D hv hroom x (ih x (mem_of_get ha)).1 _ hx (by omega) (by omega)
      · intro hne hx
        have : mode false k (a : Int) = false := by
          simp only [mode, Bool.false_or, Bool.and_eq_false_iff, decide_eq_false_iff_not]
          by_cases h12 : k = 12
          · right; omega
          · left; exact h12
        rw [this]
        exact (ih x (mem_of_get ha)).2 _ hx (by omega) (by omega)
end Go.Proofs.YtcaahmielncmpaaGreat
