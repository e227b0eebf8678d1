/-
  Plain facts on what the functions compute.
-/
import Derived.Test.YtcaahmielncmpaaPlC
set_option linter.unusedSimpArgs false
set_option linter.unusedVariables false
namespace Go.Proofs.Ytcaahmielncmpaa
open Go

/-! ## The same terms -/
mutual
def Tm.same : Tm → Tm → Bool
  | .mk k i j n ks, .mk k' i' j' n' ks' => decide (k = k') && (decide (i = i') && (decide (j = j') && (decide (n = n') && Tm.sames ks ks')))
def Tm.sames : List Tm → List Tm → Bool
  | [], [] => true
  | x :: xs, y :: ys => x.same y && Tm.sames xs ys
  | [], _ :: _ => false
  | _ :: _, [] => false
end
theorem Tm.same_eq (a b : Tm) : a.same b = (decide (a.kind = b.kind) && (decide (a.i = b.i) && (decide (a.j = b.j) && (decide (a.n = b.n) && Tm.sames a.kids b.kids)))) := by cases a; cases b; rfl
mutual
theorem Tm.same_iff : ∀ a b : Tm, a.same b = true ↔ a = b
  | .mk k i j n ks, .mk k' i' j' n' ks' => by
    simp only [Tm.same, Bool.and_eq_true, decide_eq_true_eq, Tm.sames_iff ks ks', Tm.mk.injEq]
theorem Tm.sames_iff : ∀ a b : List Tm, Tm.sames a b = true ↔ a = b
  | [], [] => by simp [Tm.sames]
  | x :: xs, y :: ys => by simp only [Tm.sames, Bool.and_eq_true, Tm.same_iff x y, Tm.sames_iff xs ys, List.cons.injEq]
  | [], _ :: _ => by simp [Tm.sames]
  | _ :: _, [] => by simp [Tm.sames]
end
theorem Tm.same_refl (a : Tm) : a.same a = true := (Tm.same_iff a a).2 rfl
theorem Tm.sames_length {a b : List Tm} (h : a.length ≠ b.length) : Tm.sames a b = false := by
  cases h2 : Tm.sames a b with
  | false => rfl
  | true => exact absurd (congrArg List.length ((Tm.sames_iff a b).1 h2)) h
theorem l118_ok (s : Tm → Tm → Option Bool) (s2 : List Tm → List Tm → Option Bool) (n : Nat) (ks us : List Tm) (hb : ks.length ≤ BIG) : ∀ (r r' pre pre' : List Tm) (m : Nat), ks = pre ++ r → us = pre' ++ r' → pre.length = pre'.length → r.length = r'.length → r.length < m → (∀ k ∈ r, ∀ k', s k k' = some (k.same k')) →
    l49_1 s s2 n m ks us (pre.length : Int) = some (Tm.sames r r') := by
  intro r
  induction r with
  | nil =>
    intro r' pre pre' m hk hk' hp hr hm _
    obtain ⟨m, rfl⟩ := fuel hm
    obtain rfl : r' = [] := List.length_eq_zero_iff.1 hr.symm
    simp only [l49_1, o49_1, decide_eq_true_eq, ifB_eq]
    rw [if_neg (ge_at hk)]
    rfl
  | cons x r ih =>
    intro r' pre pre' m hk hk' hp hr hm hs
    obtain ⟨m, rfl⟩ := fuel hm
    match r', hr with
    | y :: r', hr =>
      simp only [List.length_cons] at hm hr
      have hpl : pre.length ≤ BIG := by rw [hk] at hb; simp at hb; omega
      have := ih r' (pre ++ [x]) (pre' ++ [y]) m (next_at hk) (next_at hk') (by simp [hp]) (by omega) (by omega) (fun k hk => hs k (by simp [hk]))
      rw [len_snoc] at this
      simp only [l49_1, o49_1, decide_eq_true_eq, ifB_eq]
      have h2 := fun (k : Tm → Option Bool) => atI_at hk' k
      rw [← hp] at h2
      rw [if_pos (lt_at hk), atI_at hk, h2, hs x (by simp), Option.bind_some, ckI_eq (idx_ok hpl), this]
      simp only [Tm.sames]
      cases x.same y <;> rfl
theorem f23_both : ∀ (n : Nat), (∀ (a b : Tm), 2 * a.size < n → a.size ≤ BIG → f23 n a b = some (a.same b)) ∧ (∀ (a b : List Tm), 2 * Tm.sizes a + 1 < n → Tm.sizes a ≤ BIG → f49 n a b = some (Tm.sames a b))
  | 0 => ⟨fun a b h _ => by omega, fun a b h _ => by omega⟩
  | n + 1 => by
    obtain ⟨ih1, ih2⟩ := f23_both n
    refine ⟨fun a b h hb => ?_, fun a b h hb => ?_⟩
    · have hz := Tm.size_eq a
      simp only [f23, o23_0, ifB_eq]
      rw [ih2 a.kids b.kids (by omega) (by omega), Tm.same_eq, Option.bind_some]
      grind
    · have hl := Tm.length_le a
      simp only [f49, o49_0, ifB_eq]
      by_cases hlen : a.length = b.length
      · have h1 := l118_ok (f23 n) (f49 n) n a b (by omega) a b [] [] n rfl rfl rfl hlen (by omega) (fun k hk k' => ih1 k k' (by have := Tm.size_mem hk; omega) (by have := Tm.size_mem hk; omega))
        rw [len_nil] at h1
        rw [h1]
        have : (a.length : Int) = b.length := by omega
        simp [this]
      · have : ¬ (a.length : Int) = b.length := by omega
        simp [this, Tm.sames_length hlen]
theorem f23_ok (n : Nat) (a b : Tm) (h : 2 * a.size < n) (hb : a.size ≤ BIG) : f23 n a b = some (a.same b) := (f23_both n).1 a b h hb

/-! ## Twins -/
theorem l116_ok (s : Tm → Option Tm) (s2 : List Tm → Option (List Tm)) (n : Nat) (ks : List Tm) (hb : ks.length ≤ BIG) : ∀ (rest pre : List Tm) (m : Nat), ks = pre ++ rest → rest.length < m → (∀ k ∈ rest, s k = some k) →
    l78_1 s s2 n m ks pre (pre.length : Int) = some ks := by
  intro rest
  induction rest with
  | nil =>
    intro pre m hk hm _
    obtain ⟨m, rfl⟩ := fuel hm
    simp only [l78_1, o78_1, decide_eq_true_eq, ifB_eq]
    rw [if_neg (ge_at hk), hk, List.append_nil]
  | cons x rest ih =>
    intro pre m hk hm hs
    obtain ⟨m, rfl⟩ := fuel hm
    simp only [List.length_cons] at hm
    have hp : pre.length ≤ BIG := by rw [hk] at hb; simp at hb; omega
    have hp2 : pre.length + 1 ≤ BIG := by rw [hk] at hb; simp at hb; omega
    have := ih (pre ++ [x]) m (next_at hk) (by omega) (fun k hk => hs k (by simp [hk]))
    rw [len_snoc] at this
    simp only [l78_1, o78_1, decide_eq_true_eq, ifB_eq]
    rw [BIG_eq] at hp2
    rw [if_pos (lt_at hk), atI_at hk, hs x (by simp), Option.bind_some, ckI_eq (idx_ok hp), Tm.eta, this, ckB_eq (by simp; omega)]
theorem f21_both : ∀ (n : Nat), (∀ (a : Tm), 2 * a.size < n → a.size ≤ BIG → f21 n a = some a) ∧ (∀ (a : List Tm), 2 * Tm.sizes a + 1 < n → Tm.sizes a ≤ BIG → f78 n a = some a)
  | 0 => ⟨fun a h _ => by omega, fun a h _ => by omega⟩
  | n + 1 => by
    obtain ⟨ih1, ih2⟩ := f21_both n
    refine ⟨fun a h hb => ?_, fun a h hb => ?_⟩
    · have hz := Tm.size_eq a
      simp only [f21, o21_0, ifB_eq]
      rw [ih2 a.kids (by omega) (by omega), Option.bind_some, Tm.eta]
    · have hl := Tm.length_le a
      simp only [f78, o78_0, ifB_eq]
      have h1 := l116_ok (f21 n) (f78 n) n a (by omega) a [] n rfl (by omega) (fun k hk => ih1 k (by have := Tm.size_mem hk; omega) (by have := Tm.size_mem hk; omega))
      rw [len_nil] at h1
      exact h1
theorem f21_ok (n : Nat) (a : Tm) (h : 2 * a.size < n) (hb : a.size ≤ BIG) : f21 n a = some a := (f21_both n).1 a h hb

/-! ## Kids of right terms -/
/-! ## Free variables -/
end Go.Proofs.Ytcaahmielncmpaa
