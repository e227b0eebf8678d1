/-
  Plain facts on what the functions compute.
-/
import Derived.Test.YtcaahmielncmpaaGreatPlQ
set_option linter.unusedSimpArgs false
set_option linter.unusedVariables false
namespace Go.Proofs.YtcaahmielncmpaaGreat
open Go
theorem f128_ok (k : Int) (hk0 : 0 ≤ k) (hk1 : k ≤ 9223372036854775807) : ∀ (n : Nat) (t : Tm) (f : Int), t.size < n → t.size ≤ BIG → t.right = true → 0 ≤ f → f + 2 * t.size ≤ 4 * BIG → f128 n t k f = some (out2 (Tm.lift k f t))
  | 0, t, f, h, _, _, _, _ => by omega
  | n + 1, t, f, h, hb, hr, hf, hd => by
    have hl := Tm.len_kids t
    have hBig := BIG_eq
    have hf' : ¬ 4611686018427387904 < f := by omega
    have hz : ∀ (i0 : Int), c128_1 (f128 n) n (l128_3 (f128 n) n n) k f t 0 0 0 0 t.kind i0 t.j t.n = match kidsM (fun i x => Tm.lift k (f + tbinds t.kind i) x) 0 t.kids with
        | some l => some (.mk t.kind i0 t.j t.n l, true)
        | none => some (tzero, false) := by
      intro i0
      simp only [c128_1, o128_1, ifB_eq]
      have := app_ok (L := fun m l i => l128_3 (f128 n) n m k f t 0 0 0 0 t.kind i0 t.j t.n l i) (ks := t.kids)
        (B := fun i x c => ckI (f + tbinds t.kind i) <| (f128 n x k (f + tbinds t.kind i)).bind fun r => if (!r.2) then some (Tm.mk 0 0 0 0 [], false) else c (Tm.mk r.1.kind r.1.i r.1.j r.1.n r.1.kids))
        (fin := fun l => some (Tm.mk t.kind i0 t.j t.n l, true)) (r0 := some (tzero, false)) (go := fun i x => Tm.lift k (f + tbinds t.kind i) x)
        (fun m l i => by simp only [l128_3, o128_3, c128_4, o128_4, f127_eq, Option.bind_some, hf', decide_false, Bool.false_eq_true, if_false, ifB_eq]) (by omega) t.kids [] [] n rfl rfl (by omega) (fun i x c hi _ => by
          have hx := mem_of_get hi
          have hxs := Tm.size_kid hx
          have hbr := tbinds_range t.kind (i : Int)
          rw [ckI_eq (by omega), f128_ok k hk0 hk1 n x _ (by omega) (by omega) (Tm.right_kid hr hx) (by omega) (by omega), Option.bind_some]
          cases Tm.lift k (f + tbinds t.kind i) x with
          | none => rfl
          | some y => simp [out2, Tm.eta])
      rw [len_nil] at this
      exact this
    simp only [f128, o128_0, ifB_eq]
    rw [Tm.lift_eq]
    by_cases hk : t.kind = 2
    · obtain ⟨v1, v2, v3, v4, v5⟩ := Tm.right_var hr hk
      rw [if_pos (by simpa using hk), if_pos hk]
      simp only [c128_2, o128_2, ifB_eq]
      by_cases hfi : f ≤ t.i
      · rw [if_pos (by simpa using hfi), if_pos hfi, ckI_eq (by omega)]
        by_cases hbig : 2147483647 - t.i < k
        · rw [if_pos (by simpa using hbig), if_pos hbig]
          rfl
        · rw [if_neg (by simpa using hbig), if_neg hbig, ckI_eq (by omega), hz, v5]
          rfl
      · rw [if_neg (by simpa using hfi), if_neg hfi, hz, v5]
        simp only [kidsM, out2]
        have := Tm.eta t
        rw [v5] at this
        rw [this]
    · rw [if_neg (by simpa using hk), if_neg hk]
      simp only [c128_2, o128_2, Bool.false_eq_true, if_false, ifB_eq]
      rw [hz]
      cases kidsM (fun i x => Tm.lift k (f + tbinds t.kind i) x) 0 t.kids <;> rfl

/-! ### the document's strip -/
theorem l124_ok (n : Nat) (t : Tm) (nk : Int) (ixs : List Int) (hb : ixs.length ≤ BIG) : ∀ (rest pre : List Int) (done ys : List Tm) (m : Nat), ixs = pre ++ rest → done.length = pre.length → rest.length < m →
    (∀ (l : List Tm), rest.map (fun i => if 0 ≤ i then t.kids[i.toNat]? else none) = l.map some → (∀ x ∈ l, f147 n x = some x.strip) → ys = l.map Tm.strip → 
    l147_2 (f147 n) n m t 0 0 0 0 nk ixs done (pre.length : Int) = some (.mk nk 0 0 0 (done ++ ys))) := by
  intro rest
  induction rest with
  | nil =>
    intro pre done ys m hk hd hm l hl _ hy
    obtain ⟨m, rfl⟩ := fuel hm
    have : l = [] := by cases l <;> simp at hl; rfl
    subst this
    subst hy
    simp only [l147_2, o147_2, decide_eq_true_eq, ifB_eq]
    rw [if_neg (ge_at hk)]
    simp
  | cons i rest ih =>
    intro pre done ys m hk hd hm l hl hx hy
    obtain ⟨m, rfl⟩ := fuel hm
    simp only [List.length_cons] at hm
    have hp : pre.length < BIG := by rw [hk] at hb; simp at hb; omega
    rw [BIG_eq] at hp
    cases l with
    | nil => simp at hl
    | cons x l =>
      simp only [List.map_cons, List.cons.injEq] at hl
      subst hy
      have hi : 0 ≤ i := by
        by_cases h : 0 ≤ i
        · exact h
        · rw [if_neg h] at hl; simp at hl
      rw [if_pos hi] at hl
      have := ih (pre ++ [i]) (done ++ [x.strip]) (l.map Tm.strip) m (next_at hk) (by simp [hd]) (by omega) l hl.2 (fun y hy => hx y (by simp [hy])) rfl
      rw [len_snoc] at this
      have hlt := lt_at hk
      simp only [l147_2, o147_2, decide_eq_true_eq, ifB_eq]
      rw [if_pos hlt, ckB_eq (by simp; omega)]
      have e1 : ∀ k : Int → Option Tm, atN ixs (pre.length : Int).toNat k = k i := fun k => by
        unfold atN
        rw [hk]
        simp
      rw [e1, atI_eq hi hl.1, hx x (by simp), Option.bind_some, ckB_eq (by simp; omega), ckI_eq (by omega), Tm.eta, this]
      simp
theorem c124_ok (n : Nat) (t : Tm) (nk : Int) (ixs : List Int) (l : List Tm) (hn : ixs.length < n) (hb : ixs.length ≤ BIG) (hl : ixs.map (fun i => if 0 ≤ i then t.kids[i.toNat]? else none) = l.map some) (hx : ∀ x ∈ l, f147 n x = some x.strip) :
    c147_1 (f147 n) n (l147_2 (f147 n) n n) t 0 0 0 0 nk ixs = some (.mk nk 0 0 0 (l.map Tm.strip)) := by
  have := l124_ok n t nk ixs hb ixs [] [] _ n rfl rfl hn l hl hx rfl
  rw [len_nil] at this
  exact this
theorem f147_succ (n : Nat) (t : Tm) : f147 (n + 1) t = o147_0 (f147 n) n (c147_1 (f147 n) n (l147_2 (f147 n) n n)) t := by simp only [f147]
theorem f147_marked : ∀ (n : Nat) (t : Tm), t.size + 5 < n → t.marked = true → f147 n t = some t.strip
  | 0, t, h, _ => by omega
  | n + 1, t, h, hm => by
    have hBig := BIG_eq
    have ih : ∀ x ∈ t.kids, x.marked = true → f147 n x = some x.strip := fun x hx hx' => f147_marked n x (by have := Tm.size_kid hx; omega) hx'
    have hc := fun nk ixs l h1 h2 h3 h4 => c124_ok n t nk ixs l h1 h2 h3 h4
    refine Tm.mark_ind (P := fun t' => t' = t → f147 (n + 1) t = some t.strip) ?_ ?_ ?_ ?_ ?_ _ t (Nat.lt_succ_self _) hm rfl
    · rintro t' _ hk hks rfl
      simp only [f147, o147_0, decide_eq_true_eq, ifB_eq]
      rw [if_neg (by omega), if_neg (by omega), if_neg (by omega), if_neg (by omega), if_neg (by omega), if_neg (by omega), if_neg (by omega), if_neg (by omega), if_neg (by omega), if_neg (by omega), Tm.low_strip hk]
    · rintro k i j a b hk _ _ ha hb1 _ _ rfl
      have h1 := ih a (by simp [Tm.kids]) ha
      have h2 := ih b (by simp [Tm.kids]) hb1
      have := fun nk => hc nk [0, 1] [a, b] (by simp [Tm.size] at h ⊢; omega) (by simp; omega) (by simp [Tm.kids]) (by simp [h1, h2])
      rw [f147_succ]
      rcases hk with rfl | rfl | rfl <;> simp [o147_0, Tm.kind, this, Tm.strip, Tm.strips, ifB_eq]
    · rintro k i j a b c hk _ _ ha hb1 hc' _ _ _ rfl
      have h1 := ih a (by simp [Tm.kids]) ha
      have h2 := ih b (by simp [Tm.kids]) hb1
      have h3 := ih c (by simp [Tm.kids]) hc'
      have t1 := fun nk => hc nk [0, 2] [a, c] (by simp [Tm.size] at h ⊢; omega) (by simp; omega) (by simp [Tm.kids]) (by simp [h1, h3])
      have t2 := fun nk => hc nk [2] [c] (by simp [Tm.size] at h ⊢; omega) (by simp; omega) (by simp [Tm.kids]) (by simp [h3])
      have t3 := fun nk => hc nk [0, 1, 2] [a, b, c] (by simp [Tm.size] at h ⊢; omega) (by simp; omega) (by simp [Tm.kids]) (by simp [h1, h2, h3])
      rw [f147_succ]
      rcases hk with rfl | rfl | rfl | rfl <;> simp [o147_0, Tm.kind, t1, t2, t3, Tm.strip, Tm.strips, ifB_eq]
    · rintro k i j a b c d hk _ _ ha hb1 hc' hd _ _ _ _ rfl
      have h1 := ih a (by simp [Tm.kids]) ha
      have h2 := ih b (by simp [Tm.kids]) hb1
      have h3 := ih c (by simp [Tm.kids]) hc'
      have h4 := ih d (by simp [Tm.kids]) hd
      have t1 := fun nk => hc nk [2, 3] [c, d] (by simp [Tm.size] at h ⊢; omega) (by simp; omega) (by simp [Tm.kids]) (by simp [h3, h4])
      have t2 := fun nk => hc nk [0, 1, 2, 3] [a, b, c, d] (by simp [Tm.size] at h ⊢; omega) (by simp; omega) (by simp [Tm.kids]) (by simp [h1, h2, h3, h4])
      rw [f147_succ]
      rcases hk with rfl | rfl <;> simp [o147_0, Tm.kind, t1, t2, Tm.strip, Tm.strips, ifB_eq]
    · rintro i a b c d _ _ ha hb1 hc' hd _ _ _ rfl
      have h1 := ih a (by simp [Tm.kids]) ha
      have h2 := ih b (by simp [Tm.kids]) hb1
      have h4 := ih d (by simp [Tm.kids]) hd
      rw [f147_succ]
      simp [o147_0, Tm.kind, Tm.kids, atI, h1, h2, h4, Tm.strip, Tm.strips, ifB_eq]
      cases a.strip; cases b.strip; cases c; cases d.strip; exact ⟨rfl, rfl, rfl, rfl, rfl⟩
theorem f146_ok (n : Nat) (t : Tm) (h : t.size + 5 < n) (hb : t.size ≤ BIG) : f146 n t = some t.stripZ := by
  simp only [f146, o146_0, ifB_eq]
  rw [f126_ok n t (by omega) hb, f106_ok n t (by omega) hb, Option.bind_some, Option.bind_some]
  unfold Tm.stripZ Tm.right
  cases hp : t.plain with
  | true => rw [if_pos rfl, Bool.or_true, if_pos rfl, Tm.plain_strip hp]
  | false =>
    rw [if_neg (by simp)]
    cases hm : t.marked with
    | true => rw [if_pos rfl, f147_marked n t h hm]; rfl
    | false => rfl
end Go.Proofs.YtcaahmielncmpaaGreat
