/-
  Plain facts on what the functions compute.
-/
import Derived.Test.YtcaahmielncmpaaGreatRuD
set_option linter.unusedSimpArgs false
set_option linter.unusedVariables false
namespace Go.Proofs.YtcaahmielncmpaaGreat
open Go

theorem pf_of {K : Int} {t : Tm} (h : pf K t = true) : t.marked = true ∧ t.count = 0 ∧ t.free ≤ K := by
  unfold pf Tm.pure at h
  simp only [Bool.and_eq_true, decide_eq_true_eq] at h
  exact ⟨h.1.1, h.1.2, h.2⟩
theorem pf_mk {K : Int} {t : Tm} (h1 : t.marked = true) (h2 : t.count = 0) (h3 : t.free ≤ K) : pf K t = true := by
  unfold pf Tm.pure
  simp only [Bool.and_eq_true, decide_eq_true_eq]
  exact ⟨⟨h1, h2⟩, h3⟩
theorem counts_mem {l : List Tm} (h : Tm.counts l = 0) {x : Tm} (hx : x ∈ l) : x.count = 0 := by
  induction l with
  | nil => cases hx
  | cons y l ih =>
    simp only [Tm.counts] at h
    rcases List.mem_cons.1 hx with rfl | hx
    · omega
    · exact ih (by omega) hx
theorem mks_all {k : Int} (hk : k ≠ 12) : ∀ {l : List Tm} {i : Nat}, (∀ x ∈ l, x.marked = true) → Tm.markeds k i l = true
  | [], _, _ => rfl
  | x :: l, i, h => by
    simp only [Tm.markeds, Bool.and_eq_true]
    rw [if_neg (fun h => hk h.1)]
    exact ⟨h x (by simp), mks_all hk (fun y hy => h y (by simp [hy]))⟩
theorem markeds_mem {k : Int} (hk : k ≠ 12) : ∀ {l : List Tm} {i : Nat}, Tm.markeds k i l = true → ∀ x ∈ l, x.marked = true
  | [], _, _, _, hx => by cases hx
  | y :: l, i, h, x, hx => by
    simp only [Tm.markeds, Bool.and_eq_true] at h
    rw [if_neg (fun h => hk h.1)] at h
    rcases List.mem_cons.1 hx with rfl | hx
    · exact h.1
    · exact markeds_mem hk h.2 x hx
theorem frees_le {k K : Int} (hK : 0 ≤ K) {l : List Tm} (h : ∀ (j : Nat) x, l[j]? = some x → x.free - tbinds k (j : Nat) ≤ K) : Tm.frees k 0 l ≤ K := by
  have := frees_kmap (g := fun _ x => x) (k := k) hK (i := 0) (l := l) (fun j x hj => by rw [Nat.zero_add]; exact h j x hj)
  rw [kmap_id] at this
  exact this
theorem pf_node {K k i j : Int} {ks : List Tm} (hK : 0 ≤ K) (hk : 3 ≤ k ∧ k ≤ 11) (hn : (Tm.mk k i j 0 ks).node = true) (h : ∀ (idx : Nat) x, ks[idx]? = some x → pf (K + tbinds k (idx : Nat)) x = true) : pf K (Tm.mk k i j 0 ks) = true := by
  have hm : ∀ x ∈ ks, x.marked = true ∧ x.count = 0 := fun x hx => by
    obtain ⟨idx, hi⟩ := List.getElem?_of_mem hx
    have := pf_of (h idx x hi)
    exact ⟨this.1, this.2.1⟩
  refine pf_mk ?_ ?_ ?_
  · rw [Tm.marked_eq]
    show ((decide (1 ≤ k) && decide (k ≤ 12)) && ((Tm.mk k i j 0 ks).node && Tm.markeds k 0 ks)) = true
    rw [decide_eq_true (by omega), decide_eq_true (by omega), hn, mks_all (by omega) (fun x hx => (hm x hx).1)]
    rfl
  · rw [Tm.count_eq]
    show (if k = 12 then 1 else 0) + Tm.counts ks = 0
    rw [if_neg (by omega), counts_zero.2 (fun x hx => (hm x hx).2)]
  · rw [free_node (by omega)]
    refine frees_le hK (fun idx x hi => ?_)
    have := (pf_of (h idx x hi)).2.2
    omega
theorem pf_kid {K : Int} {t : Tm} (h : pf K t = true) (hk : 3 ≤ t.kind ∧ t.kind ≤ 11) {idx : Nat} {x : Tm} (hx : t.kids[idx]? = some x) : pf (K + tbinds t.kind (idx : Nat)) x = true := by
  obtain ⟨h1, h2, h3⟩ := pf_of h
  have hm := List.mem_of_getElem? hx
  rw [Tm.marked_eq] at h1
  simp only [Bool.and_eq_true] at h1
  rw [Tm.count_eq] at h2
  have hf : t.free = Tm.frees t.kind 0 t.kids := by
    have e := Tm.eta t
    have := free_node (k := t.kind) (i := t.i) (j := t.j) (n := t.n) (ks := t.kids) (by omega)
    rw [e] at this
    exact this
  refine pf_mk (markeds_mem (by omega) h1.2.2 x hm) (counts_mem (by omega) hm) ?_
  have := frees_at (k := t.kind) hx
  omega
theorem pf_up {K f : Int} {t : Tm} (h : pf K t = true) (hf : 0 ≤ f) (hK : K ≤ 1000) (hs : t.size ≤ 100000) : pf (K + 1) (Tm.up 1 f t) = true := by
  obtain ⟨h1, h2, h3⟩ := pf_of h
  have hd := Tm.deep_size t
  have hroom : t.room 1 := by unfold Tm.room; omega
  have hm : (Tm.up 1 f t).marked = true := by rw [(Tm.up_sort 1 (by omega) _ t f (Nat.lt_succ_self _) (marked_right h1) hroom).1, h1]
  refine pf_mk hm ?_ ?_
  · have e : (Tm.up 1 f t).erase = Tm.up 1 f t := by rw [Tm.erase_up 1 t h1 f, Tm.erase_fix _ t (Nat.lt_succ_self _) h2]
    rw [← e]
    exact Tm.erase_count _ _ (Nat.lt_succ_self _) hm
  · rw [Tm.up_free 1 (by omega) f t hf]
    split <;> omega
theorem liftZ_pf {K f : Int} {t : Tm} (h : pf K t = true) (hf : 0 ≤ f) (hK : K ≤ 1000) (hs : t.size ≤ 100000) : Tm.liftZ 1 f t = Tm.up 1 f t := by
  obtain ⟨h1, h2, h3⟩ := pf_of h
  have hd := Tm.deep_size t
  exact liftZ_up 1 f t (by omega) hf (marked_right h1) (by unfold Tm.room; omega)
theorem pf_put {K : Int} {b u : Tm} (hK0 : 0 ≤ K) (hK : K ≤ 1000) (hb : pf (K + 1) b = true) (hu : pf K u = true) (hsb : b.size ≤ 100000) (hsu : u.size ≤ 100000) : pf K (b.putZ u) = true := by
  obtain ⟨b1, b2, b3⟩ := pf_of hb
  obtain ⟨u1, u2, u3⟩ := pf_of hu
  have hr1 := marked_right b1
  have hr2 := marked_right u1
  have hok : b.kind = 1 ∨ b.kind = 2 ∨ b.plain = true ∨ u.marked = true := .inr (.inr (.inr u1))
  have hd := Tm.deep_size b
  have hdv := Tm.deep_size u
  have hp := Tm.right_strip u hr2
  have hz := Tm.strip_size' u hr2
  have hsf := Tm.strip_free' u hr2
  have hdz := Tm.deep_size u.strip
  have hroom : u.room (2 * b.size) := by unfold Tm.room; omega
  have hroom' : u.strip.room (2 * b.size) := by unfold Tm.room; omega
  have hk := marked_kind b1
  rw [Tm.putZ_sb b u hr1 (okv_of hr2 hok) (by omega), decide_eq_false (by omega)]
  have hm := Tm.sb_marked u (2 * b.size) u1 hp hroom' hroom b hr1 0 b1 (by omega) (by omega)
  refine pf_mk hm ?_ ?_
  · have e : (Tm.sb (one u) 0 false b).erase = Tm.sb (one u) 0 false b := by
      rw [erase_put u b u1 b1 0, Tm.erase_fix _ u (Nat.lt_succ_self _) u2, Tm.erase_fix _ b (Nat.lt_succ_self _) b2]
    rw [← e]
    exact Tm.erase_count _ _ (Nat.lt_succ_self _) hm
  · have := Tm.sb_free u K hK0 u3 (by omega) b hr1 0 false (by omega)
    omega
/-! ### Nodes -/
theorem tnums_lev {t : Tm} (h : t.node = true) (hk : 3 ≤ t.kind ∧ t.kind ≤ 9) : lev t.i = true ∧ lev t.j = true ∧ t.n = 0 := by
  unfold Tm.node at h
  simp only [Bool.and_eq_true, decide_eq_true_eq] at h
  have h2 := h.2
  unfold tnums at h2
  rw [if_neg (by omega), if_pos hk] at h2
  simp only [Bool.and_eq_true, decide_eq_true_eq] at h2
  exact h2
theorem kids_len {t : Tm} (h : t.node = true) : (t.kids.length : Int) = tkids t.kind t.n := by
  unfold Tm.node at h
  simp only [Bool.and_eq_true, decide_eq_true_eq] at h
  exact h.1
structure FmOk (K : Int) (f : Fm) : Prop where
  i : lev f.i = true
  j : lev f.j = true
  a : pf K f.a = true
  b : pf (K + 1) f.b = true
theorem node3 {k i j : Int} {ks : List Tm} (hk : 3 ≤ k ∧ k ≤ 9) (hi : lev i = true) (hj : lev j = true) (hl : (ks.length : Int) = tkids k 0) : (Tm.mk k i j 0 ks).node = true := by
  unfold Tm.node
  show (decide ((ks.length : Int) = tkids k 0) && tnums k i j 0) = true
  unfold tnums
  rw [decide_eq_true hl, if_neg (by omega), if_pos hk, hi, hj]; rfl
theorem node10 {k i : Int} {ks : List Tm} (hk : k = 10 ∨ k = 11) (hi : lev i = true) (hl : (ks.length : Int) = tkids k 0) : (Tm.mk k i 0 0 ks).node = true := by
  unfold Tm.node
  show (decide ((ks.length : Int) = tkids k 0) && tnums k i 0 0) = true
  unfold tnums
  rw [decide_eq_true hl, if_neg (by omega), if_neg (by omega), if_pos (by omega), hi]; rfl
theorem pf_sort {K i : Int} (hK : 0 ≤ K) (hi : lev i = true) : pf K (Tm.mk 1 i 0 0 []) = true := by
  refine pf_mk ?_ rfl (by simp [Tm.free, Tm.frees]; omega)
  rw [Tm.marked_eq]
  show (true && ((true && tnums 1 i 0 0) && true)) = true
  unfold tnums
  rw [if_neg (by omega), if_neg (by omega), if_pos (by omega), hi]; rfl
theorem pf_var {K i : Int} (h0 : 0 ≤ i) (h1 : i < K) (hK : K ≤ 1000) : pf K (Tm.mk 2 i 0 0 []) = true := by
  refine pf_mk (var_sort i h0 (by omega)).2 rfl ?_
  have := free_var i
  unfold var at this
  rw [this]; omega
theorem pf_fm2 {K k : Int} {f : Fm} (hK : 0 ≤ K) (h : FmOk K f) (hk : k = 3 ∨ k = 6) : pf K (Tm.mk k f.i f.j 0 [f.a, f.b]) = true := by
  refine pf_node hK (by omega) (node3 (by omega) h.i h.j (by rcases hk with rfl | rfl <;> rfl)) (fun idx x hx => ?_)
  match idx, hx with
  | 0, hx => simp at hx; subst hx; rcases hk with rfl | rfl <;> simpa [tbinds] using h.a
  | 1, hx => simp at hx; subst hx; rcases hk with rfl | rfl <;> simpa [tbinds] using h.b
  | n + 2, hx => simp at hx
theorem pf_lam {K : Int} {f : Fm} {t : Tm} (hK : 0 ≤ K) (h : FmOk K f) (ht : pf (K + 1) t = true) : pf K (Tm.mk 4 f.i f.j 0 [f.a, f.b, t]) = true := by
  refine pf_node hK (by omega) (node3 (by omega) h.i h.j rfl) (fun idx x hx => ?_)
  match idx, hx with
  | 0, hx => simp at hx; subst hx; simpa [tbinds] using h.a
  | 1, hx => simp at hx; subst hx; simpa [tbinds] using h.b
  | 2, hx => simp at hx; subst hx; simpa [tbinds] using ht
  | n + 3, hx => simp at hx
theorem pf_fm3 {K k : Int} {f : Fm} {t : Tm} (hK : 0 ≤ K) (h : FmOk K f) (hk : k = 8 ∨ k = 9) (ht : pf K t = true) : pf K (Tm.mk k f.i f.j 0 [f.a, f.b, t]) = true := by
  refine pf_node hK (by omega) (node3 (by omega) h.i h.j (by rcases hk with rfl | rfl <;> rfl)) (fun idx x hx => ?_)
  match idx, hx with
  | 0, hx => simp at hx; subst hx; rcases hk with rfl | rfl <;> simpa [tbinds] using h.a
  | 1, hx => simp at hx; subst hx; rcases hk with rfl | rfl <;> simpa [tbinds] using h.b
  | 2, hx => simp at hx; subst hx; rcases hk with rfl | rfl <;> simpa [tbinds] using ht
  | n + 3, hx => simp at hx
theorem pf_fm4 {K k : Int} {f : Fm} {t u : Tm} (hK : 0 ≤ K) (h : FmOk K f) (hk : k = 5 ∨ k = 7) (ht : pf K t = true) (hu : pf K u = true) : pf K (Tm.mk k f.i f.j 0 [f.a, f.b, t, u]) = true := by
  refine pf_node hK (by omega) (node3 (by omega) h.i h.j (by rcases hk with rfl | rfl <;> rfl)) (fun idx x hx => ?_)
  match idx, hx with
  | 0, hx => simp at hx; subst hx; rcases hk with rfl | rfl <;> simpa [tbinds] using h.a
  | 1, hx => simp at hx; subst hx; rcases hk with rfl | rfl <;> simpa [tbinds] using h.b
  | 2, hx => simp at hx; subst hx; rcases hk with rfl | rfl <;> simpa [tbinds] using ht
  | 3, hx => simp at hx; subst hx; rcases hk with rfl | rfl <;> simpa [tbinds] using hu
  | n + 4, hx => simp at hx
theorem pf_eq {K i : Int} {a t u : Tm} (hK : 0 ≤ K) (hi : lev i = true) (ha : pf K a = true) (ht : pf K t = true) (hu : pf K u = true) : pf K (Tm.mk 10 i 0 0 [a, t, u]) = true := by
  refine pf_node hK (by omega) (node10 (.inl rfl) hi rfl) (fun idx x hx => ?_)
  match idx, hx with
  | 0, hx => simp at hx; subst hx; simpa [tbinds] using ha
  | 1, hx => simp at hx; subst hx; simpa [tbinds] using ht
  | 2, hx => simp at hx; subst hx; simpa [tbinds] using hu
  | n + 3, hx => simp at hx
theorem pf_refl {K i : Int} {a t : Tm} (hK : 0 ≤ K) (hi : lev i = true) (ha : pf K a = true) (ht : pf K t = true) : pf K (Tm.mk 11 i 0 0 [a, t]) = true := by
  refine pf_node hK (by omega) (node10 (.inr rfl) hi rfl) (fun idx x hx => ?_)
  match idx, hx with
  | 0, hx => simp at hx; subst hx; simpa [tbinds] using ha
  | 1, hx => simp at hx; subst hx; simpa [tbinds] using ht
  | n + 2, hx => simp at hx
end Go.Proofs.YtcaahmielncmpaaGreat
