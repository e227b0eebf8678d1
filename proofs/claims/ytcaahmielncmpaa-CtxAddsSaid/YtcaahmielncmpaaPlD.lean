/-
  Plain facts on what the functions compute.
-/
import Derived.Test.YtcaahmielncmpaaPlC
set_option linter.unusedSimpArgs false
set_option linter.unusedVariables false
namespace Go.Proofs.Ytcaahmielncmpaa
open Go

/-! ## The same terms -/
mutual
def Tm.same : Tm → Tm → Bool
  | .mk k i j n ks, .mk k' i' j' n' ks' => decide (k = k') && (decide (i = i') && (decide (j = j') && (decide (n = n') && Tm.sames ks ks')))
def Tm.sames : List Tm → List Tm → Bool
  | [], [] => true
  | x :: xs, y :: ys => x.same y && Tm.sames xs ys
  | [], _ :: _ => false
  | _ :: _, [] => false
end
theorem Tm.same_eq (a b : Tm) : a.same b = (decide (a.kind = b.kind) && (decide (a.i = b.i) && (decide (a.j = b.j) && (decide (a.n = b.n) && Tm.sames a.kids b.kids)))) := by cases a; cases b; rfl
mutual
theorem Tm.same_iff : ∀ a b : Tm, a.same b = true ↔ a = b
  | .mk k i j n ks, .mk k' i' j' n' ks' => by
    simp only [Tm.same, Bool.and_eq_true, decide_eq_true_eq, Tm.sames_iff ks ks', Tm.mk.injEq]
theorem Tm.sames_iff : ∀ a b : List Tm, Tm.sames a b = true ↔ a = b
  | [], [] => by simp [Tm.sames]
  | x :: xs, y :: ys => by simp only [Tm.sames, Bool.and_eq_true, Tm.same_iff x y, Tm.sames_iff xs ys, List.cons.injEq]
  | [], _ :: _ => by simp [Tm.sames]
  | _ :: _, [] => by simp [Tm.sames]
end
theorem Tm.same_refl (a : Tm) : a.same a = true := (Tm.same_iff a a).2 rfl
theorem Tm.sames_length {a b : List Tm} (h : a.length ≠ b.length) : Tm.sames a b = false := by
  cases h2 : Tm.sames a b with
  | false => rfl
  | true => exact absurd (congrArg List.length ((Tm.sames_iff a b).1 h2)) h
theorem l118_ok (s : Tm → Tm → Option Bool) (s2 : List Tm → List Tm → Option Bool) (n : Nat) (ks us : List Tm) (hb : ks.length ≤ BIG) : ∀ (r r' pre pre' : List Tm) (m : Nat), ks = pre ++ r → us = pre' ++ r' → pre.length = pre'.length → r.length = r'.length → r.length < m → (∀ k ∈ r, ∀ k', s k k' = some (k.same k')) →
    l49_1 s s2 n m ks us (pre.length : Int) = some (Tm.sames r r') := by
  intro r
  induction r with
  | nil =>
    intro r' pre pre' m hk hk' hp hr hm _
    obtain ⟨m, rfl⟩ := fuel hm
    obtain rfl : r' = [] := List.length_eq_zero_iff.1 hr.symm
    simp only [l49_1, o49_1, decide_eq_true_eq, ifB_eq]
    rw [if_neg (ge_at hk)]
    rfl
  | cons x r ih =>
    intro r' pre pre' m hk hk' hp hr hm hs
    obtain ⟨m, rfl⟩ := fuel hm
    match r', hr with
    | y :: r', hr =>
      simp only [List.length_cons] at hm hr
      have hpl : pre.length ≤ BIG := by rw [hk] at hb; simp at hb; omega
      have := ih r' (pre ++ [x]) (pre' ++ [y]) m (next_at hk) (next_at hk') (by simp [hp]) (by omega) (by omega) (fun k hk => hs k (by simp [hk]))
      rw [len_snoc] at this
      simp only [l49_1, o49_1, decide_eq_true_eq, ifB_eq]
      have h2 := fun (k : Tm → Option Bool) => atI_at hk' k
      rw [← hp] at h2
      rw [if_pos (lt_at hk), atI_at hk, h2, hs x (by simp), Option.bind_some, ckI_eq (idx_ok hpl), this]
      simp only [Tm.sames]
      cases x.same y <;> rfl
theorem f23_both : ∀ (n : Nat), (∀ (a b : Tm), 2 * a.size < n → a.size ≤ BIG → f23 n a b = some (a.same b)) ∧ (∀ (a b : List Tm), 2 * Tm.sizes a + 1 < n → Tm.sizes a ≤ BIG → f49 n a b = some (Tm.sames a b))
  | 0 => ⟨fun a b h _ => by omega, fun a b h _ => by omega⟩
  | n + 1 => by
    obtain ⟨ih1, ih2⟩ := f23_both n
    refine ⟨fun a b h hb => ?_, fun a b h hb => ?_⟩
    · have hz := Tm.size_eq a
      simp only [f23, o23_0, ifB_eq]
      rw [ih2 a.kids b.kids (by omega) (by omega), Tm.same_eq, Option.bind_some]
      grind
    · have hl := Tm.length_le a
      simp only [f49, o49_0, ifB_eq]
      by_cases hlen : a.length = b.length
      · have h1 := l118_ok (f23 n) (f49 n) n a b (by omega) a b [] [] n rfl rfl rfl hlen (by omega) (fun k hk k' => ih1 k k' (by have := Tm.size_mem hk; omega) (by have := Tm.size_mem hk; omega))
        rw [len_nil] at h1
        rw [h1]
        have : (a.length : Int) = b.length := by omega
        simp [this]
      · have : ¬ (a.length : Int) = b.length := by omega
        simp [this, Tm.sames_length hlen]
theorem f23_ok (n : Nat) (a b : Tm) (h : 2 * a.size < n) (hb : a.size ≤ BIG) : f23 n a b = some (a.same b) := (f23_both n).1 a b h hb

/-! ## Twins -/
theorem l116_ok (s : Tm → Option Tm) (s2 : List Tm → Option (List Tm)) (n : Nat) (ks : List Tm) (hb : ks.length ≤ BIG) : ∀ (rest pre : List Tm) (m : Nat), ks = pre ++ rest → rest.length < m → (∀ k ∈ rest, s k = some k) →
    l78_1 s s2 n m ks pre (pre.length : Int) = some ks := by
  intro rest
  induction rest with
  | nil =>
    intro pre m hk hm _
    obtain ⟨m, rfl⟩ := fuel hm
    simp only [l78_1, o78_1, decide_eq_true_eq, ifB_eq]
    rw [if_neg (ge_at hk), hk, List.append_nil]
  | cons x rest ih =>
    intro pre m hk hm hs
    obtain ⟨m, rfl⟩ := fuel hm
    simp only [List.length_cons] at hm
    have hp : pre.length ≤ BIG := by rw [hk] at hb; simp at hb; omega
    have hp2 : pre.length + 1 ≤ BIG := by rw [hk] at hb; simp at hb; omega
    have := ih (pre ++ [x]) m (next_at hk) (by omega) (fun k hk => hs k (by simp [hk]))
    rw [len_snoc] at this
    simp only [l78_1, o78_1, decide_eq_true_eq, ifB_eq]
    rw [BIG_eq] at hp2
    rw [if_pos (lt_at hk), atI_at hk, hs x (by simp), Option.bind_some, ckI_eq (idx_ok hp), Tm.eta, this, ckB_eq (by simp; omega)]
theorem f21_both : ∀ (n : Nat), (∀ (a : Tm), 2 * a.size < n → a.size ≤ BIG → f21 n a = some a) ∧ (∀ (a : List Tm), 2 * Tm.sizes a + 1 < n → Tm.sizes a ≤ BIG → f78 n a = some a)
  | 0 => ⟨fun a h _ => by omega, fun a h _ => by omega⟩
  | n + 1 => by
    obtain ⟨ih1, ih2⟩ := f21_both n
    refine ⟨fun a h hb => ?_, fun a h hb => ?_⟩
    · have hz := Tm.size_eq a
      simp only [f21, o21_0, ifB_eq]
      rw [ih2 a.kids (by omega) (by omega), Option.bind_some, Tm.eta]
    · have hl := Tm.length_le a
      simp only [f78, o78_0, ifB_eq]
      have h1 := l116_ok (f21 n) (f78 n) n a (by omega) a [] n rfl (by omega) (fun k hk => ih1 k (by have := Tm.size_mem hk; omega) (by have := Tm.size_mem hk; omega))
      rw [len_nil] at h1
      exact h1
theorem f21_ok (n : Nat) (a : Tm) (h : 2 * a.size < n) (hb : a.size ≤ BIG) : f21 n a = some a := (f21_both n).1 a h hb

/-! ## Kids of right terms -/
theorem Tm.plains_mem {ks : List Tm} (h : Tm.plains ks = true) {x : Tm} (hx : x ∈ ks) : x.plain = true := by
  induction ks with
  | nil => cases hx
  | cons k ks ih =>
    simp only [Tm.plains, Bool.and_eq_true] at h
    rcases List.mem_cons.1 hx with rfl | hx
    · exact h.1
    · exact ih h.2 hx
theorem Tm.markeds_mem {k : Int} : ∀ {i : Nat} {ks : List Tm}, Tm.markeds k i ks = true → ∀ {x : Tm}, x ∈ ks → x.right = true
  | _, [], _, _, hx => by cases hx
  | i, y :: ks, h, x, hx => by
    simp only [Tm.markeds, Bool.and_eq_true] at h
    rcases List.mem_cons.1 hx with rfl | hx
    · have := h.1
      unfold Tm.right
      split at this <;> simp [this]
    · exact Tm.markeds_mem h.2 hx
theorem Tm.right_kid {t x : Tm} (h : t.right = true) (hx : x ∈ t.kids) : x.right = true := by
  unfold Tm.right at h
  rw [Bool.or_eq_true] at h
  rcases h with h | h
  · rw [Tm.marked_eq] at h
    simp only [Bool.and_eq_true] at h
    exact Tm.markeds_mem h.2.2 hx
  · rw [Tm.plain_eq] at h
    simp only [Bool.and_eq_true] at h
    unfold Tm.right
    simp [Tm.plains_mem h.2.2 hx]
theorem Tm.right_node {t : Tm} (h : t.right = true) : t.node = true := by
  unfold Tm.right at h
  rw [Bool.or_eq_true] at h
  rcases h with h | h
  · rw [Tm.marked_eq] at h; simp only [Bool.and_eq_true] at h; exact h.2.1
  · rw [Tm.plain_eq] at h; simp only [Bool.and_eq_true] at h; exact h.2.1
theorem Tm.right_var {t : Tm} (h : t.right = true) (hk : t.kind = 2) : 0 ≤ t.i ∧ t.i ≤ 2147483647 ∧ t.j = 0 ∧ t.n = 0 ∧ t.kids = [] := by
  have hn := Tm.right_node h
  have h1 := node_nil hn (.inr hk)
  unfold Tm.node tnums at hn
  rw [hk] at hn
  simp at hn
  exact ⟨hn.2.1, hn.2.2.1, hn.2.2.2.1, hn.2.2.2.2, h1⟩

/-! ## Free variables -/
theorem tbinds_range (k i : Int) : 0 ≤ tbinds k i ∧ tbinds k i ≤ 2 := by
  unfold tbinds
  grind
mutual
def Tm.free : Tm → Int
  | .mk k i _ _ ks => if k = 2 then i + 1 else Tm.frees k 0 ks
def Tm.frees (k : Int) : Nat → List Tm → Int
  | _, [] => 0
  | i, x :: xs => max (x.free - tbinds k i) (Tm.frees k (i + 1) xs)
end
theorem Tm.free_eq (t : Tm) : t.free = if t.kind = 2 then t.i + 1 else Tm.frees t.kind 0 t.kids := by cases t; rfl
mutual
theorem Tm.free_range : ∀ t : Tm, t.right = true → 0 ≤ t.free ∧ t.free ≤ 2147483648
  | .mk k i j n ks, h => by
    rw [Tm.free_eq]
    split
    · rename_i hk
      have := Tm.right_var h hk
      omega
    · exact Tm.frees_range k 0 ks (fun x hx => Tm.right_kid h hx)
theorem Tm.frees_range (k : Int) : ∀ (i : Nat) (ks : List Tm), (∀ x ∈ ks, x.right = true) → 0 ≤ Tm.frees k i ks ∧ Tm.frees k i ks ≤ 2147483648
  | _, [], _ => by simp [Tm.frees]
  | i, x :: xs, h => by
    have := Tm.free_range x (h x (by simp))
    have := Tm.frees_range k (i + 1) xs (fun y hy => h y (by simp [hy]))
    have := tbinds_range k i
    simp only [Tm.frees]
    omega
end
theorem l127_ok (s : Tm → Option Int) (n : Nat) (t : Tm) (hb : t.kids.length ≤ BIG) : ∀ (rest pre : List Tm) (acc : Int) (m : Nat), t.kids = pre ++ rest → rest.length < m → (∀ k ∈ rest, s k = some k.free ∧ k.right = true) → 0 ≤ acc →
    l103_1 s n m t acc (pre.length : Int) = some (max acc (Tm.frees t.kind pre.length rest)) := by
  intro rest
  induction rest with
  | nil =>
    intro pre acc m hk hm _ h0
    obtain ⟨m, rfl⟩ := fuel hm
    simp only [l103_1, o103_1, decide_eq_true_eq, ifB_eq]
    rw [if_neg (ge_at hk)]
    simp only [Tm.frees]
    congr 1
    omega
  | cons x rest ih =>
    intro pre acc m hk hm hs h0
    obtain ⟨m, rfl⟩ := fuel hm
    simp only [List.length_cons] at hm
    have hp : pre.length ≤ BIG := by rw [hk] at hb; simp at hb; omega
    have hx := hs x (by simp)
    have hr := Tm.free_range x hx.2
    have ht := tbinds_range t.kind pre.length
    have := ih (pre ++ [x]) (max acc (x.free - tbinds t.kind pre.length)) m (next_at hk) (by omega) (fun k hk => hs k (by simp [hk])) (by omega)
    rw [len_snoc, List.length_append, List.length_singleton] at this
    simp only [l103_1, o103_1, decide_eq_true_eq, ifB_eq]
    rw [if_pos (lt_at hk), atI_at hk, hx.1, Option.bind_some, f128_eq, Option.bind_some, ckI_eq (by omega), ckI_eq (idx_ok hp), this]
    simp only [Tm.frees]
    congr 1
    omega
theorem f103_ok : ∀ (n : Nat) (t : Tm), t.size < n → t.size ≤ BIG → t.right = true → f103 n t = some t.free
  | 0, t, h, _, _ => by omega
  | n + 1, t, h, hb, hr => by
    have hl := Tm.len_kids t
    have h1 := l127_ok (f103 n) n t (by omega) t.kids [] 0 n rfl (by omega) (fun k hk => ⟨f103_ok n k (by have := Tm.size_kid hk; omega) (by have := Tm.size_kid hk; omega) (Tm.right_kid hr hk), Tm.right_kid hr hk⟩) (by omega)
    rw [len_nil] at h1
    have h2 := Tm.free_range t hr
    simp only [f103, o103_0, h1, decide_eq_true_eq, ifB_eq]
    rw [Tm.free_eq] at h2 ⊢
    split
    · rename_i hk
      rw [if_pos hk] at h2
      rw [ckI_eq (by omega)]
    · rename_i hk
      rw [if_neg hk] at h2
      congr 1
      simp only [List.length_nil]
      omega
theorem f52_ok (n : Nat) (t : Tm) (h : t.size < n) (hb : t.size ≤ BIG) : f52 n t = some (if t.right = true then t.free else 0) := by
  simp only [f52, o52_0, ifB_eq]
  rw [f90_ok n t h hb, Option.bind_some]
  cases hr : t.right with
  | false => rfl
  | true => rw [f103_ok n t h hb hr]; rfl
theorem l130_ok (s : Tm → Int → Option Int) (n : Nat) (t : Tm) (deep : Int) (h0 : 0 ≤ deep) (h1 : deep ≤ 4 * BIG) (hb : t.kids.length ≤ BIG) : ∀ (rest pre : List Tm) (acc : Int) (m : Nat), t.kids = pre ++ rest → rest.length < m →
    (∀ k ∈ rest, k.right = true ∧ ∀ d, deep ≤ d → d ≤ deep + 2 → s k d = some (max (k.free - d) 0)) → 0 ≤ acc → l135_1 s n m deep t acc t.kids (t.kids.length : Int) (pre.length : Int) = some (max acc (max (Tm.frees t.kind pre.length rest - deep) 0)) := by
  intro rest
  induction rest with
  | nil =>
    intro pre acc m hk hm _ ha
    obtain ⟨m, rfl⟩ := fuel hm
    simp only [l135_1, o135_1, decide_eq_true_eq, ifB_eq]
    rw [if_neg (ge_at hk)]
    simp only [Tm.frees]
    congr 1
    omega
  | cons x rest ih =>
    intro pre acc m hk hm hs ha
    obtain ⟨m, rfl⟩ := fuel hm
    simp only [List.length_cons] at hm
    have hp : pre.length ≤ BIG := by rw [hk] at hb; simp at hb; omega
    have hx := hs x (by simp)
    have hr := Tm.free_range x hx.1
    have ht := tbinds_range t.kind pre.length
    have := ih (pre ++ [x]) (max acc (max (x.free - (deep + tbinds t.kind pre.length)) 0)) m (next_at hk) (by omega) (fun k hk => hs k (by simp [hk])) (by omega)
    rw [len_snoc, List.length_append, List.length_singleton] at this
    simp only [l135_1, o135_1, decide_eq_true_eq, ifB_eq]
    rw [if_pos (lt_at hk), atI_at hk, f129_eq, Option.bind_some, ckI_eq (by rw [BIG_eq] at h1; omega), hx.2 _ (by omega) (by omega), Option.bind_some, ckI_eq (idx_ok hp), this]
    simp only [Tm.frees]
    congr 1
    omega
theorem f135_ok : ∀ (n : Nat) (t : Tm) (deep : Int), t.size < n → t.size ≤ BIG → t.right = true → 0 ≤ deep → deep + 2 * t.size ≤ 4 * BIG → f135 n t deep = some (max (t.free - deep) 0)
  | 0, t, _, h, _, _, _, _ => by omega
  | n + 1, t, deep, h, hb, hr, h0, hd => by
    have hl := Tm.len_kids t
    have h1 := l130_ok (f135 n) n t deep h0 (by omega) (by omega) t.kids [] 0 n rfl (by omega) (fun k hk => ⟨Tm.right_kid hr hk, fun d hd1 hd2 => f135_ok n k d (by have := Tm.size_kid hk; omega) (by have := Tm.size_kid hk; omega) (Tm.right_kid hr hk) (by omega) (by have := Tm.size_kid hk; omega)⟩) (by omega)
    rw [len_nil] at h1
    have h2 := Tm.free_range t hr
    simp only [f135, o135_0, h1, decide_eq_true_eq, ifB_eq]
    rw [Tm.free_eq] at h2 ⊢
    rw [BIG_eq] at hd
    split
    · rename_i hk
      rw [if_pos hk] at h2
      rw [ckI_eq (by omega), ckI_eq (by omega)]
    · rename_i hk
      rw [if_neg hk] at h2
      congr 1
      simp only [List.length_nil]
      omega
theorem f99_ok (n : Nat) (t : Tm) (h : t.size < n) (hb : t.size ≤ BIG) : f99 n t = some (if t.right = true then t.free else 0) := by
  simp only [f99, o99_0, ifB_eq]
  rw [f87_ok n t h hb, Option.bind_some]
  cases hr : t.right with
  | false => rfl
  | true =>
    rw [f135_ok n t 0 h hb hr (by omega) (by omega)]
    have := Tm.free_range t hr
    simp only [Bool.not_true, Bool.false_eq_true, if_false, Option.bind_some, if_true]
    congr 1
    omega
end Go.Proofs.Ytcaahmielncmpaa
