/-
  Plain facts on what the functions compute.
-/
import Derived.Test.YtcaahmielncmpaaGreatPlJ
set_option linter.unusedSimpArgs false
set_option linter.unusedVariables false
namespace Go.Proofs.YtcaahmielncmpaaGreat
open Go
/-! ## Stripping the marks -/
mutual
def Tm.strip : Tm → Tm
  | .mk k i j n ks => if 3 ≤ k ∧ k ≤ 12 then .mk (if k = 12 then 23 else k + 10) (if k = 12 then i else 0) 0 (if k = 12 then 5 else 0) (Tm.strips k 0 ks) else .mk k i j n ks
def Tm.strips (k : Int) : Nat → List Tm → List Tm
  | _, [] => []
  | i, x :: xs => if (k = 4 ∧ i = 1) ∨ ((k = 5 ∨ k = 8 ∨ k = 9) ∧ i < 2) then Tm.strips k (i + 1) xs else (if k = 12 ∧ i = 2 then x else x.strip) :: Tm.strips k (i + 1) xs
end
theorem len2 {α : Type} {l : List α} (h : l.length = 2) : ∃ a b, l = [a, b] := by
  match l, h with
  | [a, b], _ => exact ⟨a, b, rfl⟩
theorem len3 {α : Type} {l : List α} (h : l.length = 3) : ∃ a b c, l = [a, b, c] := by
  match l, h with
  | [a, b, c], _ => exact ⟨a, b, c, rfl⟩
theorem len4 {α : Type} {l : List α} (h : l.length = 4) : ∃ a b c d, l = [a, b, c, d] := by
  match l, h with
  | [a, b, c, d], _ => exact ⟨a, b, c, d, rfl⟩
/-- The marked terms, one sort of node at a time. -/
theorem Tm.mark_ind {P : Tm → Prop} (hb : ∀ t : Tm, t.marked = true → (t.kind = 1 ∨ t.kind = 2) → t.kids = [] → P t)
    (h2 : ∀ k i j a b, k = 3 ∨ k = 6 ∨ k = 11 → (Tm.mk k i j 0 [a, b]).marked = true → tnums k i j 0 = true → a.marked = true → b.marked = true → P a → P b → P (.mk k i j 0 [a, b]))
    (h3 : ∀ k i j a b c, k = 4 ∨ k = 8 ∨ k = 9 ∨ k = 10 → (Tm.mk k i j 0 [a, b, c]).marked = true → tnums k i j 0 = true → a.marked = true → b.marked = true → c.marked = true → P a → P b → P c → P (.mk k i j 0 [a, b, c]))
    (h4 : ∀ k i j a b c d, k = 5 ∨ k = 7 → (Tm.mk k i j 0 [a, b, c, d]).marked = true → tnums k i j 0 = true → a.marked = true → b.marked = true → c.marked = true → d.marked = true → P a → P b → P c → P d → P (.mk k i j 0 [a, b, c, d]))
    (h12 : ∀ i a b c d, (Tm.mk 12 i 0 0 [a, b, c, d]).marked = true → lev i = true → a.marked = true → b.marked = true → c.plain = true → d.marked = true → P a → P b → P d → P (.mk 12 i 0 0 [a, b, c, d])) :
    ∀ (n : Nat) (t : Tm), t.size < n → t.marked = true → P t
  | 0, t, h, _ => by omega
  | n + 1, t, h, hm => by
    have hm' := hm
    rw [Tm.marked_eq] at hm'
    simp only [Bool.and_eq_true, decide_eq_true_eq] at hm'
    obtain ⟨⟨hk1, hk2⟩, hn, hks⟩ := hm'
    have hs := fun (x : Tm) (hx : x ∈ t.kids) => Tm.size_kid hx
    have ih : ∀ x ∈ t.kids, x.marked = true → P x := fun x hx hx' => Tm.mark_ind hb h2 h3 h4 h12 n x (by have := hs x hx; omega) hx'
    obtain ⟨k, i, j, m, ks⟩ := t
    simp only [Tm.kind, Tm.kids] at *
    unfold Tm.node at hn
    simp only [Tm.kind, Tm.kids, Tm.i, Tm.j, Tm.n, Bool.and_eq_true, decide_eq_true_eq] at hn
    obtain ⟨hlen, hnum⟩ := hn
    have hk : k = 1 ∨ k = 2 ∨ k = 3 ∨ k = 4 ∨ k = 5 ∨ k = 6 ∨ k = 7 ∨ k = 8 ∨ k = 9 ∨ k = 10 ∨ k = 11 ∨ k = 12 := by omega
    have hm0 : m = 0 := by
      unfold tnums at hnum
      rcases hk with rfl | rfl | rfl | rfl | rfl | rfl | rfl | rfl | rfl | rfl | rfl | rfl <;> simp at hnum <;> omega
    subst hm0
    by_cases hA : k = 1 ∨ k = 2
    · refine hb _ hm hA ?_
      have : ks.length = 0 := by
        rcases hA with rfl | rfl <;> simp [tkids] at hlen <;> simp [hlen]
      exact List.length_eq_zero_iff.1 this
    by_cases hB : k = 3 ∨ k = 6 ∨ k = 11
    · obtain ⟨a, b, rfl⟩ := len2 (l := ks) (by rcases hB with rfl | rfl | rfl <;> simp [tkids] at hlen <;> omega)
      have : k ≠ 12 := by omega
      simp [Tm.markeds, this] at hks
      exact h2 k i j a b hB hm hnum hks.1 hks.2 (ih a (by simp) hks.1) (ih b (by simp) hks.2)
    by_cases hC : k = 4 ∨ k = 8 ∨ k = 9 ∨ k = 10
    · obtain ⟨a, b, c, rfl⟩ := len3 (l := ks) (by rcases hC with rfl | rfl | rfl | rfl <;> simp [tkids] at hlen <;> omega)
      have : k ≠ 12 := by omega
      simp [Tm.markeds, this] at hks
      exact h3 k i j a b c hC hm hnum hks.1 hks.2.1 hks.2.2 (ih a (by simp) hks.1) (ih b (by simp) hks.2.1) (ih c (by simp) hks.2.2)
    by_cases hD : k = 5 ∨ k = 7
    · obtain ⟨a, b, c, d, rfl⟩ := len4 (l := ks) (by rcases hD with rfl | rfl <;> simp [tkids] at hlen <;> omega)
      have : k ≠ 12 := by omega
      simp [Tm.markeds, this] at hks
      exact h4 k i j a b c d hD hm hnum hks.1 hks.2.1 hks.2.2.1 hks.2.2.2 (ih a (by simp) hks.1) (ih b (by simp) hks.2.1) (ih c (by simp) hks.2.2.1) (ih d (by simp) hks.2.2.2)
    have hE : k = 12 := by omega
    subst hE
    obtain ⟨a, b, c, d, rfl⟩ := len4 (l := ks) (by simp [tkids] at hlen; omega)
    simp [Tm.markeds] at hks
    have hj : lev i = true ∧ j = 0 := by simpa [tnums] using hnum
    obtain ⟨hl, rfl⟩ := hj
    exact h12 i a b c d hm hl hks.1 hks.2.1 hks.2.2.1 hks.2.2.2 (ih a (by simp) hks.1) (ih b (by simp) hks.2.1) (ih d (by simp) hks.2.2.2)
theorem Tm.plain_kind {t : Tm} (h : t.plain = true) : ¬ (3 ≤ t.kind ∧ t.kind ≤ 12) := by
  rw [Tm.plain_eq] at h
  simp only [Bool.and_eq_true, Bool.or_eq_true, decide_eq_true_eq] at h
  have := h.1
  omega
theorem Tm.plain_strip {t : Tm} (h : t.plain = true) : t.strip = t := by
  have hk := Tm.plain_kind h
  obtain ⟨k, i, j, n, ks⟩ := t
  rw [Tm.strip]
  exact if_neg hk
theorem Tm.low_strip {t : Tm} (h : t.kind = 1 ∨ t.kind = 2) : t.strip = t := by
  obtain ⟨k, i, j, n, ks⟩ := t
  simp only [Tm.kind] at h
  rw [Tm.strip, if_neg (by omega)]
theorem Tm.strip_plain (t : Tm) (h : t.marked = true) : t.strip.plain = true := by
  refine Tm.mark_ind (P := fun t => t.strip.plain = true) ?_ ?_ ?_ ?_ ?_ _ t (Nat.lt_succ_self _) h
  · intro t hm hk hks
    rw [Tm.low_strip hk, Tm.plain_eq, hks]
    rw [Tm.marked_eq] at hm
    simp only [Bool.and_eq_true] at hm
    rw [hm.2.1]
    rcases hk with hk | hk <;> rw [hk] <;> rfl
  · intro k i j a b hk _ _ _ _ ha hb
    rcases hk with rfl | rfl | rfl <;> simp [Tm.strip, Tm.strips, Tm.plain, Tm.plains, Tm.node_mk, tkids, tnums, ha, hb]
  · intro k i j a b c hk _ _ _ _ _ ha hb hc
    rcases hk with rfl | rfl | rfl | rfl <;> simp [Tm.strip, Tm.strips, Tm.plain, Tm.plains, Tm.node_mk, tkids, tnums, ha, hb, hc]
  · intro k i j a b c d hk _ _ _ _ _ _ ha hb hc hd
    rcases hk with rfl | rfl <;> simp [Tm.strip, Tm.strips, Tm.plain, Tm.plains, Tm.node_mk, tkids, tnums, ha, hb, hc, hd]
  · intro i a b c d _ hl _ _ hc _ ha hb hd
    simp [Tm.strip, Tm.strips, Tm.plain, Tm.plains, Tm.node_mk, tkids, tnums, ha, hb, hc, hd, takes, lev]
    simpa [lev] using hl
theorem Tm.right_strip (t : Tm) (h : t.right = true) : t.strip.plain = true := by
  unfold Tm.right at h
  rcases Bool.or_eq_true_iff.1 h with h | h
  · exact Tm.strip_plain t h
  · rw [Tm.plain_strip h, h]
theorem Tm.strip_size (t : Tm) (h : t.marked = true) : t.strip.size ≤ t.size := by
  refine Tm.mark_ind (P := fun t => t.strip.size ≤ t.size) ?_ ?_ ?_ ?_ ?_ _ t (Nat.lt_succ_self _) h
  · intro t hm hk hks
    rw [Tm.low_strip hk]; omega
  · intro k i j a b hk _ _ _ _ ha hb
    rcases hk with rfl | rfl | rfl <;> simp [Tm.strip, Tm.strips, Tm.size, Tm.sizes] <;> omega
  · intro k i j a b c hk _ _ _ _ _ ha hb hc
    rcases hk with rfl | rfl | rfl | rfl <;> simp [Tm.strip, Tm.strips, Tm.size, Tm.sizes] <;> omega
  · intro k i j a b c d hk _ _ _ _ _ _ ha hb hc hd
    rcases hk with rfl | rfl <;> simp [Tm.strip, Tm.strips, Tm.size, Tm.sizes] <;> omega
  · intro i a b c d _ hl _ _ hc _ ha hb hd
    simp [Tm.strip, Tm.strips, Tm.size, Tm.sizes]; omega
theorem Tm.strip_free (t : Tm) (h : t.marked = true) : t.strip.free ≤ t.free := by
  refine Tm.mark_ind (P := fun t => t.strip.free ≤ t.free) ?_ ?_ ?_ ?_ ?_ _ t (Nat.lt_succ_self _) h
  · intro t hm hk hks
    rw [Tm.low_strip hk]; omega
  · intro k i j a b hk _ _ _ _ ha hb
    rcases hk with rfl | rfl | rfl <;> simp [Tm.strip, Tm.strips, Tm.free, Tm.frees, tbinds] <;> omega
  · intro k i j a b c hk _ _ _ _ _ ha hb hc
    rcases hk with rfl | rfl | rfl | rfl <;> simp [Tm.strip, Tm.strips, Tm.free, Tm.frees, tbinds] <;> omega
  · intro k i j a b c d hk _ _ _ _ _ _ ha hb hc hd
    rcases hk with rfl | rfl <;> simp [Tm.strip, Tm.strips, Tm.free, Tm.frees, tbinds] <;> omega
  · intro i a b c d _ hl _ _ hc _ ha hb hd
    simp [Tm.strip, Tm.strips, Tm.free, Tm.frees, tbinds]; omega
theorem Tm.strip_size' (t : Tm) (h : t.right = true) : t.strip.size ≤ t.size := by
  unfold Tm.right at h
  rcases Bool.or_eq_true_iff.1 h with h | h
  · exact Tm.strip_size t h
  · rw [Tm.plain_strip h]; omega
theorem Tm.strip_free' (t : Tm) (h : t.right = true) : t.strip.free ≤ t.free := by
  unfold Tm.right at h
  rcases Bool.or_eq_true_iff.1 h with h | h
  · exact Tm.strip_free t h
  · rw [Tm.plain_strip h]; omega

theorem c125_ok (n : Nat) (t : Tm) (nk : Int) (p : Nat) (hp : p ≤ t.kids.length) (hb : t.kids.length ≤ BIG) (hn : t.kids.length < n) (ih : ∀ x ∈ t.kids, f143 n x = some x.strip ∨ x.marked = false) (hm : ∀ x ∈ t.kids.drop p, x.marked = true) :
    c143_1 (f143 n) n (l143_2 (f143 n) n n) t 0 0 0 0 nk p = some (.mk nk 0 0 0 ((t.kids.drop p).map Tm.strip)) := by
  rw [BIG_eq] at hb
  simp only [c143_1, o143_1, ifB_eq]
  rw [ckI_eq (by omega), ckB_eq (by simp; omega), ckB_eq (by simp; omega)]
  have e : (t.kids.take (t.kids.length : Int).toNat).drop (p : Int).toNat = t.kids.drop p := by simp
  rw [e]
  have := app_ok (L := fun m l i => l143_2 (f143 n) n m 0 0 0 0 nk 0 0 0 l (t.kids.drop p) ((t.kids.drop p).length : Int) i) (ks := t.kids.drop p)
    (B := fun _ x c => (f143 n x).bind fun y => c (Tm.mk y.kind y.i y.j y.n y.kids)) (fin := fun l => some (Tm.mk nk 0 0 0 l)) (r0 := none) (go := fun _ x => some x.strip)
    (fun m l i => by simp only [l143_2, o143_2, ifB_eq]) (by rw [BIG_eq]; simp; omega) (t.kids.drop p) [] [] n rfl rfl (by simp; omega) (fun i x c hi _ => by
      have hx := mem_of_get hi
      have hx' : x ∈ t.kids := List.mem_of_mem_drop hx
      rcases ih x hx' with h | h
      · rw [h, Option.bind_some, Tm.eta]
      · rw [hm x hx] at h; cases h)
  rw [len_nil] at this
  have km : ∀ (i : Nat) (l : List Tm), kidsM (fun _ x => some x.strip) i l = some (l.map Tm.strip) := by
    intro i l
    induction l generalizing i with
    | nil => rfl
    | cons x xs ih => simp [kidsM, ih (i + 1)]
  rw [km] at this
  exact this
theorem f143_succ (n : Nat) (t : Tm) : f143 (n + 1) t = o143_0 (f143 n) n (c143_1 (f143 n) n (l143_2 (f143 n) n n)) t := by simp only [f143]
theorem f143_marked : ∀ (n : Nat) (t : Tm), t.size + 1 < n → t.size ≤ BIG → t.marked = true → f143 n t = some t.strip
  | 0, t, h, _, _ => by omega
  | n + 1, t, h, hb, hm => by
    have ih : ∀ x ∈ t.kids, f143 n x = some x.strip ∨ x.marked = false := fun x hx => by
      cases hx' : x.marked with
      | false => exact .inr rfl
      | true => exact .inl (f143_marked n x (by have := Tm.size_kid hx; omega) (by have := Tm.size_kid hx; omega) hx')
    have h142 : ∀ x ∈ t.kids, f35 n x = some x := fun x hx => f35_ok n x (by have := Tm.size_kid hx; omega) (by have := Tm.size_kid hx; omega)
    have hl := Tm.len_kids t
    have hc := fun nk p hp hm => c125_ok n t nk p hp (by omega) (by omega) ih hm
    refine Tm.mark_ind (P := fun t' => t' = t → f143 (n + 1) t = some t.strip) ?_ ?_ ?_ ?_ ?_ _ t (Nat.lt_succ_self _) hm rfl
    · rintro t' _ hk hks rfl
      simp only [f143, o143_0, decide_eq_true_eq, ifB_eq]
      rw [if_neg (by omega), if_neg (by omega), if_neg (by omega), if_neg (by omega), if_neg (by omega), if_neg (by omega), if_neg (by omega), if_neg (by omega), if_neg (by omega), if_neg (by omega), f35_ok n t' (by omega) hb, Tm.low_strip hk]
      rfl
    · rintro k i j a b hk _ _ ha hb1 _ _ rfl
      rcases hk with rfl | rfl | rfl
      · rw [f143_succ]
        refine Eq.trans ?_ ((hc 13 0 (by simp [Tm.kids]) (by simp [Tm.kids, ha, hb1])).trans ?_)
        · simp [o143_0, Tm.kind, ifB_eq]
        · simp [Tm.strip, Tm.strips, Tm.kids]
      · rw [f143_succ]
        refine Eq.trans ?_ ((hc 16 0 (by simp [Tm.kids]) (by simp [Tm.kids, ha, hb1])).trans ?_)
        · simp [o143_0, Tm.kind, ifB_eq]
        · simp [Tm.strip, Tm.strips, Tm.kids]
      · rw [f143_succ]
        refine Eq.trans ?_ ((hc 21 0 (by simp [Tm.kids]) (by simp [Tm.kids, ha, hb1])).trans ?_)
        · simp [o143_0, Tm.kind, ifB_eq]
        · simp [Tm.strip, Tm.strips, Tm.kids]
    · rintro k i j a b c hk _ _ ha hb1 hc' _ _ _ rfl
      rcases hk with rfl | rfl | rfl | rfl
      · have h1 := (ih a (by simp [Tm.kids])).resolve_right (by simp [ha])
        have h2 := (ih c (by simp [Tm.kids])).resolve_right (by simp [hc'])
        rw [f143_succ]
        simp [o143_0, Tm.kind, Tm.kids, atI, h1, h2, Tm.eta, f105, o105_0, ckB, Tm.strip, Tm.strips, ifB_eq]
        cases a.strip; cases c.strip; exact ⟨rfl, rfl⟩
      · rw [f143_succ]
        refine Eq.trans ?_ ((hc 18 2 (by simp [Tm.kids]) (by simp [Tm.kids, ha, hb1, hc'])).trans ?_)
        · simp [o143_0, Tm.kind, ifB_eq]
        · simp [Tm.strip, Tm.strips, Tm.kids]
      · rw [f143_succ]
        refine Eq.trans ?_ ((hc 19 2 (by simp [Tm.kids]) (by simp [Tm.kids, ha, hb1, hc'])).trans ?_)
        · simp [o143_0, Tm.kind, ifB_eq]
        · simp [Tm.strip, Tm.strips, Tm.kids]
      · rw [f143_succ]
        refine Eq.trans ?_ ((hc 20 0 (by simp [Tm.kids]) (by simp [Tm.kids, ha, hb1, hc'])).trans ?_)
        · simp [o143_0, Tm.kind, ifB_eq]
        · simp [Tm.strip, Tm.strips, Tm.kids]
    · rintro k i j a b c d hk _ _ ha hb1 hc' hd _ _ _ _ rfl
      rcases hk with rfl | rfl
      · rw [f143_succ]
        refine Eq.trans ?_ ((hc 15 2 (by simp [Tm.kids]) (by simp [Tm.kids, ha, hb1, hc', hd])).trans ?_)
        · simp [o143_0, Tm.kind, ifB_eq]
        · simp [Tm.strip, Tm.strips, Tm.kids]
      · rw [f143_succ]
        refine Eq.trans ?_ ((hc 17 0 (by simp [Tm.kids]) (by simp [Tm.kids, ha, hb1, hc', hd])).trans ?_)
        · simp [o143_0, Tm.kind, ifB_eq]
        · simp [Tm.strip, Tm.strips, Tm.kids]
    · rintro i a b c d _ _ ha hb1 hc' hd _ _ _ rfl
      have h1 := (ih a (by simp [Tm.kids])).resolve_right (by simp [ha])
      have h2 := (ih b (by simp [Tm.kids])).resolve_right (by simp [hb1])
      have h3 := h142 c (by simp [Tm.kids])
      have h4 := (ih d (by simp [Tm.kids])).resolve_right (by simp [hd])
      rw [f143_succ]
      simp [o143_0, Tm.kind, Tm.kids, atI, h1, h2, h3, h4, Tm.eta, f105, o105_0, ckB, Tm.strip, Tm.strips, ifB_eq]
      cases a.strip; cases b.strip; cases c; cases d.strip; exact ⟨rfl, rfl, rfl, rfl, rfl⟩
theorem f143_ok (n : Nat) (t : Tm) (h : t.size + 1 < n) (hb : t.size ≤ BIG) (hr : t.right = true) : f143 n t = some t.strip := by
  unfold Tm.right at hr
  rcases Bool.or_eq_true_iff.1 hr with hm | hp
  · exact f143_marked n t h hb hm
  · rw [Tm.plain_strip hp]
    have hp' := hp
    rw [Tm.plain_eq] at hp'
    simp only [Bool.and_eq_true, Bool.or_eq_true, decide_eq_true_eq] at hp'
    have := hp'.1
    obtain ⟨n, rfl⟩ : ∃ m, n = m + 1 := ⟨n - 1, by omega⟩
    simp only [f143, o143_0, decide_eq_true_eq, ifB_eq]
    rw [if_neg (by omega), if_neg (by omega), if_neg (by omega), if_neg (by omega), if_neg (by omega), if_neg (by omega), if_neg (by omega), if_neg (by omega), if_neg (by omega), if_neg (by omega), f35_ok n t (by omega) hb]
    rfl
def Tm.stripZ (t : Tm) : Tm := if t.right = true then t.strip else tzero
theorem f135_ok (n : Nat) (t : Tm) (h : t.size + 1 < n) (hb : t.size ≤ BIG) : f135 n t = some t.stripZ := by
  simp only [f135, o135_0, ifB_eq]
  rw [f91_ok n t (by omega) hb, Option.bind_some]
  unfold Tm.stripZ
  cases hr : t.right with
  | false => rfl
  | true => rw [if_neg (by simp), f143_ok n t h hb hr, if_pos rfl]; rfl
end Go.Proofs.YtcaahmielncmpaaGreat
