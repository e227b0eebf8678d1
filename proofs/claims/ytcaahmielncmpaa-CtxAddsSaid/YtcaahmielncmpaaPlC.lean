/-
  Plain facts on what the functions compute.
-/
import Derived.Test.YtcaahmielncmpaaPlB
set_option linter.unusedSimpArgs false
set_option linter.unusedVariables false
namespace Go.Proofs.Ytcaahmielncmpaa
open Go

/-! ## Right terms -/
def lev (n : Int) : Bool := decide (0 ≤ n) && decide (n ≤ 1000)
def tnums (k i j n : Int) : Bool :=
  if k = 2 then decide (0 ≤ i) && (decide (i ≤ 2147483647) && (decide (j = 0) && decide (n = 0)))
  else if 3 ≤ k ∧ k ≤ 9 then lev i && (lev j && decide (n = 0))
  else if k = 1 ∨ k = 10 ∨ k = 11 ∨ k = 12 then lev i && (decide (j = 0) && decide (n = 0))
  else if k = 23 then lev i && lev j
  else decide (i = 0) && (decide (j = 0) && decide (n = 0))
def Tm.node (t : Tm) : Bool := decide ((t.kids.length : Int) = tkids t.kind t.n) && tnums t.kind t.i t.j t.n

theorem f152_eq (n : Int) : f152 n = some (lev n) := by
  unfold f152 o152_0 lev
  simp only [ifB_eq]
  grind
theorem f166_eq (n : Int) : f166 n = some (lev n) := by
  unfold f166 o166_0 lev
  simp only [ifB_eq]
  grind
theorem f125_eq (t : Tm) : f125 t = some (tnums t.kind t.i t.j t.n) := by
  unfold f125 o125_0 c125_1 o125_1 c125_2 o125_2 tnums
  simp only [ifB_eq]
  simp only [f152_eq, Option.bind_some]
  grind (splits := 100)
theorem f151_eq (t : Tm) : f151 t = some (tnums t.kind t.i t.j t.n) := by
  unfold f151 o151_0 c151_1 o151_1 c151_2 o151_2 tnums
  simp only [ifB_eq]
  simp only [f166_eq, Option.bind_some]
  grind (splits := 100)
theorem f81_eq (t : Tm) : f81 t = some t.node := by
  unfold f81 o81_0 Tm.node
  simp only [ifB_eq]
  simp only [f124_eq, f125_eq, Option.bind_some]
  grind
theorem f149_eq (k : Int) : f149 k = some (if k = 1 ∨ k = 2 then 0 else if k ≤ 12 then 1 else 2) := by
  unfold f149 o149_0 c149_1 o149_1
  simp only [ifB_eq]
  grind

mutual
def Tm.plain : Tm → Bool
  | .mk k i j n ks => (decide (k = 1) || (decide (k = 2) || (decide (13 ≤ k) && decide (k ≤ 23)))) && ((Tm.mk k i j n ks).node && Tm.plains ks)
def Tm.plains : List Tm → Bool
  | [] => true
  | x :: xs => x.plain && Tm.plains xs
end
mutual
def Tm.marked : Tm → Bool
  | .mk k i j n ks => (decide (1 ≤ k) && decide (k ≤ 12)) && ((Tm.mk k i j n ks).node && Tm.markeds k 0 ks)
def Tm.markeds (k : Int) : Nat → List Tm → Bool
  | _, [] => true
  | i, x :: xs => (if k = 12 ∧ i = 2 then x.plain else x.marked) && Tm.markeds k (i + 1) xs
end
theorem Tm.plain_eq (t : Tm) : t.plain = ((decide (t.kind = 1) || (decide (t.kind = 2) || (decide (13 ≤ t.kind) && decide (t.kind ≤ 23)))) && (t.node && Tm.plains t.kids)) := by cases t; rfl
theorem Tm.marked_eq (t : Tm) : t.marked = ((decide (1 ≤ t.kind) && decide (t.kind ≤ 12)) && (t.node && Tm.markeds t.kind 0 t.kids)) := by cases t; rfl

/-- Lists that the program can hold. -/
theorem idx_ok {n : Nat} (h : n ≤ BIG) : -9223372036854775808 ≤ (n : Int) + 1 ∧ (n : Int) + 1 ≤ 9223372036854775807 := by rw [BIG_eq] at h; omega

theorem l77_ok (s : Tm → Option Bool) (n : Nat) (t : Tm) (hb : t.kids.length ≤ BIG) : ∀ (rest pre : List Tm) (m : Nat), t.kids = pre ++ rest → rest.length < m → (∀ k ∈ rest, s k = some k.plain) →
    l82_2 s n m t (pre.length : Int) = some (Tm.plains rest) := by
  intro rest
  induction rest with
  | nil =>
    intro pre m hk hm _
    obtain ⟨m, rfl⟩ := fuel hm
    simp only [l82_2, o82_2, decide_eq_true_eq, ifB_eq]
    rw [if_neg (ge_at hk)]
    rfl
  | cons x rest ih =>
    intro pre m hk hm hs
    obtain ⟨m, rfl⟩ := fuel hm
    simp only [List.length_cons] at hm
    have hp : pre.length ≤ BIG := by rw [hk] at hb; simp at hb; omega
    simp only [l82_2, o82_2, decide_eq_true_eq, ifB_eq]
    rw [if_pos (lt_at hk), atI_at hk, hs x (by simp), Option.bind_some, ckI_eq (idx_ok hp)]
    have := ih (pre ++ [x]) m (next_at hk) (by omega) (fun k hk => hs k (by simp [hk]))
    rw [len_snoc] at this
    rw [this]
    simp only [Tm.plains]
    cases x.plain <;> rfl
theorem f82_ok : ∀ (n : Nat) (t : Tm), t.size < n → t.size ≤ BIG → f82 n t = some t.plain
  | 0, t, h, _ => by omega
  | n + 1, t, h, hb => by
    have hl := Tm.len_kids t
    have h1 := l77_ok (f82 n) n t (by omega) t.kids [] n rfl (by omega) (fun k hk => f82_ok n k (by have := Tm.size_kid hk; omega) (by have := Tm.size_kid hk; omega))
    rw [len_nil] at h1
    simp only [f82, o82_0, c82_1, o82_1, h1, f81_eq, Option.bind_some, ifB_eq]
    rw [Tm.plain_eq]
    grind
theorem l70_ok (s : Tm → Option Bool) (n : Nat) (t : Tm) (hb : t.kids.length ≤ BIG) : ∀ (rest pre : List Tm) (m : Nat), t.kids = pre ++ rest → rest.length < m → (∀ k ∈ rest, s k = some k.marked) → (∀ k ∈ rest, f82 n k = some k.plain) →
    l25_2 s n m t (pre.length : Int) = some (Tm.markeds t.kind pre.length rest) := by
  intro rest
  induction rest with
  | nil =>
    intro pre m hk hm _ _
    obtain ⟨m, rfl⟩ := fuel hm
    simp only [l25_2, o25_2, decide_eq_true_eq, ifB_eq]
    rw [if_neg (ge_at hk)]
    rfl
  | cons x rest ih =>
    intro pre m hk hm hs hq
    obtain ⟨m, rfl⟩ := fuel hm
    simp only [List.length_cons] at hm
    have hp : pre.length ≤ BIG := by rw [hk] at hb; simp at hb; omega
    have := ih (pre ++ [x]) m (next_at hk) (by omega) (fun k hk => hs k (by simp [hk])) (fun k hk => hq k (by simp [hk]))
    rw [len_snoc, List.length_append, List.length_singleton] at this
    have h1 : ∀ b : Bool, c25_3 s n (l25_2 s n m) t (pre.length : Int) b = some ((if b then x.plain else x.marked) && Tm.markeds t.kind (pre.length + 1) rest) := by
      intro b
      simp only [c25_3, o25_3, ifB_eq]
      rw [atI_at hk, atI_at hk, hs x (by simp), hq x (by simp), Option.bind_some, Option.bind_some, ckI_eq (idx_ok hp), this]
      cases b <;> cases x.plain <;> cases x.marked <;> rfl
    simp only [l25_2, o25_2, decide_eq_true_eq, ifB_eq]
    rw [if_pos (lt_at hk), h1, h1]
    simp only [Tm.markeds]
    by_cases h12 : t.kind = 12
    · by_cases h2 : pre.length = 2
      · simp [h12, h2]
      · have : ¬ (pre.length : Int) = 2 := by omega
        simp [h12, h2, this]
    · simp [h12]
theorem f25_ok : ∀ (n : Nat) (t : Tm), t.size < n → t.size ≤ BIG → f25 n t = some t.marked
  | 0, t, h, _ => by omega
  | n + 1, t, h, hb => by
    have hl := Tm.len_kids t
    have h1 := l70_ok (f25 n) n t (by omega) t.kids [] n rfl (by omega) (fun k hk => f25_ok n k (by have := Tm.size_kid hk; omega) (by have := Tm.size_kid hk; omega)) (fun k hk => f82_ok n k (by have := Tm.size_kid hk; omega) (by have := Tm.size_kid hk; omega))
    rw [len_nil] at h1
    simp only [f25, o25_0, c25_1, o25_1, h1, f81_eq, Option.bind_some, ifB_eq]
    rw [Tm.marked_eq]
    grind
def Tm.right (t : Tm) : Bool := t.marked || t.plain
theorem f90_ok (n : Nat) (t : Tm) (h : t.size < n) (hb : t.size ≤ BIG) : f90 n t = some t.right := by
  simp only [f90, o90_0, f25_ok n t h hb, f82_ok n t h hb, Option.bind_some, Tm.right, ifB_eq]
  cases t.marked <;> rfl

/-! ### the program's right -/
def Tm.rightW (w : Int) (t : Tm) : Bool := if w = 1 then t.marked else if w = 2 then t.plain else t.right
def rightL (k s : Int) : Nat → List Tm → Bool
  | _, [] => true
  | i, x :: xs => (if k = 12 ∧ i = 2 then x.plain else x.rightW s) && rightL k s (i + 1) xs
theorem rightL_marked (k : Int) : ∀ (i : Nat) (l : List Tm), rightL k 1 i l = Tm.markeds k i l
  | _, [] => rfl
  | i, x :: xs => by simp [rightL, Tm.markeds, rightL_marked k (i + 1) xs, Tm.rightW]
theorem rightL_plain (k : Int) (h : k ≠ 12) : ∀ (i : Nat) (l : List Tm), rightL k 2 i l = Tm.plains l
  | _, [] => rfl
  | i, x :: xs => by simp [rightL, Tm.plains, rightL_plain k h (i + 1) xs, Tm.rightW, h]
theorem l128_ok (s : Tm → Int → Option Bool) (n : Nat) (t : Tm) (w : Int) (hw : w = 0 ∨ w = 1 ∨ w = 2) (hb : t.kids.length ≤ BIG) : ∀ (rest pre : List Tm) (m : Nat), t.kids = pre ++ rest → rest.length < m → (∀ k ∈ rest, ∀ w, w = 0 ∨ w = 1 ∨ w = 2 → s k w = some (k.rightW w)) →
    l123_3 s n m t w t.kids (t.kids.length : Int) (pre.length : Int) = some (rightL t.kind w pre.length rest) := by
  intro rest
  induction rest with
  | nil =>
    intro pre m hk hm _
    obtain ⟨m, rfl⟩ := fuel hm
    simp only [l123_3, o123_3, decide_eq_true_eq, ifB_eq]
    rw [if_neg (ge_at hk)]
    rfl
  | cons x rest ih =>
    intro pre m hk hm hs
    obtain ⟨m, rfl⟩ := fuel hm
    simp only [List.length_cons] at hm
    have hp : pre.length ≤ BIG := by rw [hk] at hb; simp at hb; omega
    have := ih (pre ++ [x]) m (next_at hk) (by omega) (fun k hk => hs k (by simp [hk]))
    rw [len_snoc, List.length_append, List.length_singleton] at this
    have hx := hs x (by simp)
    simp only [l123_3, o123_3, decide_eq_true_eq, ifB_eq]
    rw [if_pos (lt_at hk), atI_at hk, hx 2 (by simp), hx w hw, Option.bind_some, Option.bind_some, ckI_eq (idx_ok hp), this]
    simp only [rightL]
    have e2 : x.rightW 2 = x.plain := by simp [Tm.rightW]
    rw [e2]
    by_cases h12 : t.kind = 12
    · by_cases h2 : pre.length = 2
      · simp only [h12, h2]; cases x.plain <;> rfl
      · have h3 : ¬ (pre.length : Int) = 2 := by omega
        simp only [h12, h2, h3, if_true, if_false, true_and]; cases x.rightW w <;> rfl
    · simp only [h12, if_false, false_and]; cases x.rightW w <;> rfl
theorem tkids_zero {k s : Int} (h : k = 1 ∨ k = 2) : tkids k s = 0 := by unfold tkids; rw [if_pos h]
theorem tkids_out {k s : Int} (h : k < 1 ∨ 23 < k) : tkids k s = -1 := by
  unfold tkids
  rw [if_neg (by omega), if_neg (by omega), if_neg (by omega), if_neg (by omega), if_neg (by omega), if_neg (by omega), if_neg (by omega)]
theorem node_range {t : Tm} (h : t.node = true) : 1 ≤ t.kind ∧ t.kind ≤ 23 := by
  unfold Tm.node at h
  simp only [Bool.and_eq_true, decide_eq_true_eq] at h
  rcases Classical.em (1 ≤ t.kind ∧ t.kind ≤ 23) with h1 | h1
  · exact h1
  · have := tkids_out (k := t.kind) (s := t.n) (by omega)
    omega
theorem node_nil {t : Tm} (h : t.node = true) (hk : t.kind = 1 ∨ t.kind = 2) : t.kids = [] := by
  unfold Tm.node at h
  simp only [Bool.and_eq_true, decide_eq_true_eq] at h
  rw [tkids_zero hk] at h
  exact List.length_eq_zero_iff.1 (by omega)
theorem rightW_of (t : Tm) (w : Int) (hw : w = 0 ∨ w = 1 ∨ w = 2) (s : Int) (hs : s = if t.kind = 1 ∨ t.kind = 2 then 0 else if t.kind ≤ 12 then 1 else 2) :
    (if (!decide (w = 0)) = true then if (!decide (s = 0)) = true then if (!decide (s = w)) = true then some false else some (t.node && rightL t.kind s 0 t.kids) else some (t.node && rightL t.kind s 0 t.kids) else some (t.node && rightL t.kind s 0 t.kids)) = some (t.rightW w) := by
  cases hn : t.node with
  | false =>
    have h1 : t.marked = false := by rw [Tm.marked_eq, hn]; simp
    have h2 : t.plain = false := by rw [Tm.plain_eq, hn]; simp
    simp only [Tm.rightW, Tm.right, h1, h2, Bool.false_and, Bool.or_self, ite_self]
  | true =>
    have hr := node_range hn
    rw [Bool.true_and]
    by_cases hk : t.kind = 1 ∨ t.kind = 2
    · have hnil := node_nil hn hk
      have h1 : t.marked = true := by rw [Tm.marked_eq, hn, hnil]; simp [Tm.markeds]; omega
      have h2 : t.plain = true := by rw [Tm.plain_eq, hn, hnil]; simp [Tm.plains]; omega
      rw [if_pos hk] at hs
      subst hs
      simp [hnil, rightL, Tm.rightW, Tm.right, h1, h2]
    · rw [if_neg hk] at hs
      by_cases h12 : t.kind ≤ 12
      · rw [if_pos h12] at hs
        subst hs
        have h2 : t.plain = false := by rw [Tm.plain_eq]; simp; omega
        have h1 : t.marked = Tm.markeds t.kind 0 t.kids := by rw [Tm.marked_eq, hn]; simp; omega
        rw [rightL_marked]
        rcases hw with rfl | rfl | rfl <;> simp [Tm.rightW, Tm.right, h1, h2]
      · rw [if_neg h12] at hs
        subst hs
        have h2 : t.marked = false := by rw [Tm.marked_eq]; simp; omega
        have h1 : t.plain = Tm.plains t.kids := by rw [Tm.plain_eq, hn]; simp; omega
        rw [rightL_plain _ (by omega)]
        rcases hw with rfl | rfl | rfl <;> simp [Tm.rightW, Tm.right, h1, h2]
theorem f123_ok : ∀ (n : Nat) (t : Tm) (w : Int), w = 0 ∨ w = 1 ∨ w = 2 → t.size < n → t.size ≤ BIG → f123 n t w = some (t.rightW w)
  | 0, t, w, _, h, _ => by omega
  | n + 1, t, w, hw, h, hb => by
    have hl := Tm.len_kids t
    generalize hs : (if t.kind = 1 ∨ t.kind = 2 then 0 else if t.kind ≤ 12 then 1 else 2 : Int) = s
    have hs' : s = 0 ∨ s = 1 ∨ s = 2 := by
      rw [← hs]
      split
      · simp
      · split <;> simp
    have h1 := l128_ok (f123 n) n t s hs' (by omega) t.kids [] n rfl (by omega) (fun k hk w hw => f123_ok n k w hw (by have := Tm.size_kid hk; omega) (by have := Tm.size_kid hk; omega))
    rw [len_nil, List.length_nil] at h1
    have h2 : c123_1 (f123 n) n (l123_3 (f123 n) n n) t s = some (t.node && rightL t.kind s 0 t.kids) := by
      simp only [c123_1, o123_1, c123_2, o123_2, h1, f150_eq, f151_eq, Option.bind_some, ifB_eq]
      unfold Tm.node
      generalize decide ((t.kids.length : Int) = tkids t.kind t.n) = b1
      generalize tnums t.kind t.i t.j t.n = b2
      cases b1 <;> cases b2 <;> rfl
    simp only [f123, o123_0, f149_eq, Option.bind_some, hs, h2, ifB_eq]
    exact rightW_of t w hw s hs.symm
theorem f87_ok (n : Nat) (t : Tm) (h : t.size < n) (hb : t.size ≤ BIG) : f87 n t = some t.right := by
  simp only [f87, o87_0, ifB_eq]
  rw [f123_ok n t 0 (by simp) h hb]
  rfl
theorem f79_ok (n : Nat) (t : Tm) (h : t.size < n) (hb : t.size ≤ BIG) : f79 n t = some t.marked := by
  simp only [f79, o79_0, ifB_eq]
  rw [f123_ok n t 1 (by simp) h hb]
  rfl
end Go.Proofs.Ytcaahmielncmpaa
