/-
  Plain facts on what the functions compute.
-/
import Derived.Test.YtcaahmielncmpaaGreatGenK
set_option linter.unusedSimpArgs false
set_option linter.unusedVariables false
namespace Go.Proofs.YtcaahmielncmpaaGreat
open Go

def takes (s : Int) : Int :=
  if s = 3 ∨ s = 5 ∨ s = 6 ∨ s = 8 ∨ s = 10 ∨ s = 11 then 4 else if s = 1 ∨ s = 2 ∨ s = 7 ∨ s = 9 then 5 else if s = 4 ∨ s = 12 ∨ s = 13 ∨ s = 14 ∨ s = 21 then 6 else if s = 15 ∨ s = 18 ∨ s = 19 ∨ s = 20 then 9 else if s = 16 ∨ s = 17 then 12 else -1
def tkids (k s : Int) : Int :=
  if k = 1 ∨ k = 2 then 0 else if k = 18 ∨ k = 19 then 1 else if k = 3 ∨ k = 6 ∨ k = 13 ∨ k = 14 ∨ k = 15 ∨ k = 16 ∨ k = 21 ∨ k = 11 then 2 else if k = 4 ∨ k = 8 ∨ k = 9 ∨ k = 10 ∨ k = 20 then 3
  else if k = 5 ∨ k = 7 ∨ k = 12 ∨ k = 17 then 4 else if k = 22 then 6 else if k = 23 then takes s else -1
def tbinds (k i : Int) : Int :=
  if k = 3 ∨ k = 5 ∨ k = 6 ∨ k = 7 ∨ k = 8 ∨ k = 9 ∨ k = 13 ∨ k = 14 ∨ k = 16 ∨ k = 17 then (if i = 1 then 1 else 0) else if k = 4 then (if i = 1 ∨ i = 2 then 1 else 0) else if k = 22 then (if i = 2 then 2 else 0) else 0

theorem f120_eq (k i : Int) : f120 k i = some (tbinds k i) := by
  unfold f120 o120_0 c120_1 o120_1 tbinds
  simp only [ifB_eq]
  grind (splits := 100)
theorem f127_eq (k i : Int) : f127 k i = some (tbinds k i) := by
  unfold f127 o127_0 c127_1 o127_1 tbinds
  simp only [ifB_eq]
  grind (splits := 100)
theorem f141_eq (s : Int) : f141 s = some (takes s) := by
  unfold f141 o141_0 c141_1 o141_1 c141_2 o141_2 c141_3 o141_3 c141_4 o141_4 takes
  simp only [ifB_eq]
  grind (splits := 100)
theorem f132_eq (k s : Int) : f132 k s = some (tkids k s) := by
  unfold f132 o132_0 c132_1 o132_1 c132_2 o132_2 c132_3 o132_3 c132_4 o132_4 c132_5 o132_5 tkids
  simp only [ifB_eq]
  simp only [f141_eq, Option.bind_some]
  grind (splits := 100)
theorem takes_out {s : Int} (h : s < 1 ∨ 21 < s) : takes s = -1 := by
  unfold takes
  rw [if_neg (by omega), if_neg (by omega), if_neg (by omega), if_neg (by omega), if_neg (by omega)]
theorem takes_tab (s : Int) (h1 : 1 ≤ s) (h2 : s ≤ 21) : ([5, 5, 4, 6, 4, 4, 5, 4, 5, 4, 4, 6, 6, 6, 9, 12, 12, 9, 9, 9, 6] : List Int)[(s - 1).toNat]? = some (takes s) := by
  obtain ⟨n, hn, rfl⟩ : ∃ n : Nat, n < 21 ∧ s = n + 1 := ⟨(s - 1).toNat, by omega, by omega⟩
  have e : ((n : Int) + 1 - 1).toNat = n := by omega
  rw [e]
  have h3 : ∀ n : Nat, n < 21 → ([5, 5, 4, 6, 4, 4, 5, 4, 5, 4, 4, 6, 6, 6, 9, 12, 12, 9, 9, 9, 6] : List Int)[n]? = some (takes (n + 1)) := by decide
  exact h3 n hn
theorem f137_last (t1 : Int) (l : List Int) (hl : l = [5, 5, 4, 6, 4, 4, 5, 4, 5, 4, 4, 6, 6, 6, 9, 12, 12, 9, 9, 9, 6]) (b : Bool) (hb : b = decide (1 ≤ t1 ∧ t1 ≤ 21)) : o137_6 t1 l b = some (takes t1) := by
  unfold o137_6
  simp only [ifB_eq]
  by_cases h : 1 ≤ t1 ∧ t1 ≤ 21
  · have h3 := takes_tab t1 h.1 h.2
    rw [← hl] at h3
    have h4 : l.length = 21 := by rw [hl]; rfl
    rw [hb, decide_eq_true h, if_pos rfl]
    rw [ckI_eq (by omega)]
    unfold ckB atN
    rw [if_pos (by simp [h4]; omega), h3]
  · rw [hb, decide_eq_false h, if_neg (by simp), takes_out (by omega)]
theorem f137_eq (k s : Int) : f137 k s = some (tkids k s) := by
  unfold f137 o137_0 c137_1 o137_1 c137_2 o137_2 c137_3 o137_3 c137_4 o137_4 c137_5 o137_5 c137_6
  simp only [ifB_eq]
  have h1 : ∀ b, b = decide (1 ≤ s ∧ s ≤ 21) → o137_6 s [5, 5, 4, 6, 4, 4, 5, 4, 5, 4, 4, 6, 6, 6, 9, 12, 12, 9, 9, 9, 6] b = some (takes s) := fun b hb => f137_last s _ rfl b hb
  have h2 : 1 ≤ s → o137_6 s [5, 5, 4, 6, 4, 4, 5, 4, 5, 4, 4, 6, 6, 6, 9, 12, 12, 9, 9, 9, 6] (decide (s ≤ 21)) = some (takes s) := fun h => h1 _ (by simp [h])
  have h3 : ¬ 1 ≤ s → o137_6 s [5, 5, 4, 6, 4, 4, 5, 4, 5, 4, 4, 6, 6, 6, 9, 12, 12, 9, 9, 9, 6] false = some (takes s) := fun h => h1 _ (by simp [h])
  unfold tkids
  by_cases hs : 1 ≤ s
  · simp only [hs, decide_true, if_true, List.length_cons, List.length_nil]
    have h2 := h2 hs
    simp only [show (((0 + 1 + 1 + 1 + 1 + 1 + 1 + 1 + 1 + 1 + 1 + 1 + 1 + 1 + 1 + 1 + 1 + 1 + 1 + 1 + 1 + 1 : Nat)) : Int) = 21 from rfl, h2]
    grind (splits := 100)
  · simp only [hs, decide_false, Bool.false_eq_true, if_false, h3 hs]
    grind (splits := 100)
end Go.Proofs.YtcaahmielncmpaaGreat

namespace Go.Proofs.YtcaahmielncmpaaGreat
open Go

/-! ## Steps of loops over a list -/
section
variable {α β : Type}
theorem atI_mid (pre rest : List α) (x : α) (k : α → Option β) : atI (pre ++ x :: rest) (pre.length : Int) k = k x := by
  unfold atI
  rw [if_pos (by omega)]
  simp
theorem ckB_eq {b : Bool} {x : Option β} (h : b = true) : ckB b x = x := by
  unfold ckB
  rw [if_pos h]
theorem atI_eq {l : List α} {n : Int} {x : α} {k : α → Option β} (h0 : 0 ≤ n) (h : l[n.toNat]? = some x) : atI l n k = k x := by
  unfold atI
  rw [if_pos h0, h]
theorem lt_mid' (pre rest : List α) (x : α) : (pre.length : Int) < ((pre ++ x :: rest).length : Int) := by simp; omega
theorem lt_end' (pre : List α) : ¬ (pre.length : Int) < ((pre ++ []).length : Int) := by simp
theorem atI_at {l pre rest : List α} {x : α} (h : l = pre ++ x :: rest) (k : α → Option β) : atI l (pre.length : Int) k = k x := by subst h; exact atI_mid pre rest x k
theorem lt_at {l pre rest : List α} {x : α} (h : l = pre ++ x :: rest) : (pre.length : Int) < (l.length : Int) := by subst h; exact lt_mid' pre rest x
theorem ge_at {l pre : List α} (h : l = pre ++ []) : ¬ (pre.length : Int) < (l.length : Int) := by subst h; exact lt_end' pre
theorem next_at {l pre rest : List α} {x : α} (h : l = pre ++ x :: rest) : l = (pre ++ [x]) ++ rest := by rw [h]; simp
theorem len_nil : ((([] : List α).length : Nat) : Int) = 0 := rfl
theorem len_snoc (pre : List α) (x : α) : ((pre ++ [x]).length : Int) = (pre.length : Int) + 1 := by simp
end

/-! ## Size -/
theorem Tm.size_eq (t : Tm) : t.size = 1 + Tm.sizes t.kids := by cases t; rfl
theorem Tm.size_pos (t : Tm) : 1 ≤ t.size := by rw [Tm.size_eq]; omega
theorem Tm.length_le (ks : List Tm) : ks.length ≤ Tm.sizes ks := by
  induction ks with
  | nil => simp [Tm.sizes]
  | cons k ks ih => have := k.size_pos; simp [Tm.sizes]; omega
theorem Tm.size_mem {k : Tm} {ks : List Tm} (h : k ∈ ks) : k.size ≤ Tm.sizes ks := by
  induction ks with
  | nil => cases h
  | cons x ks ih =>
    simp only [Tm.sizes]
    rcases List.mem_cons.1 h with rfl | h
    · omega
    · have := ih h; omega
theorem Tm.size_kid {t k : Tm} (h : k ∈ t.kids) : k.size < t.size := by rw [Tm.size_eq t]; have := Tm.size_mem h; omega
theorem Tm.len_kids (t : Tm) : t.kids.length < t.size := by rw [Tm.size_eq t]; have := Tm.length_le t.kids; omega
theorem Tm.eta (t : Tm) : Tm.mk t.kind t.i t.j t.n t.kids = t := by cases t; rfl

theorem BIG_eq : BIG = 1000000000000 := rfl

/-- Fuel that is left. -/
theorem fuel {m k : Nat} (h : k < m) : ∃ m', m = m' + 1 := ⟨m - 1, by omega⟩

theorem l63_ok (s : Tm → Option Int) (n : Nat) (ks : List Tm) : ∀ (rest pre : List Tm) (acc : Int) (m : Nat), ks = pre ++ rest → rest.length < m → (∀ k ∈ rest, s k = some (k.size : Int)) → 0 ≤ acc → acc + Tm.sizes rest ≤ BIG → pre.length + rest.length ≤ BIG →
    l83_1 s n m acc ks (ks.length : Int) (pre.length : Int) = some (acc + Tm.sizes rest) := by
  intro rest
  induction rest with
  | nil =>
    intro pre acc m hk hm _ _ _ _
    obtain ⟨m, rfl⟩ := fuel hm
    simp only [l83_1, o83_1, decide_eq_true_eq, ifB_eq]
    rw [if_neg (ge_at hk)]
    simp [Tm.sizes]
  | cons x rest ih =>
    intro pre acc m hk hm hs h0 hb hl
    obtain ⟨m, rfl⟩ := fuel hm
    simp only [Tm.sizes] at hb ⊢
    rw [BIG_eq] at hb hl
    simp only [List.length_cons] at hl hm
    simp only [l83_1, o83_1, decide_eq_true_eq, ifB_eq]
    rw [if_pos (lt_at hk), atI_at hk, hs x (by simp), Option.bind_some, ckI_eq (by omega), ckI_eq (by omega)]
    have := ih (pre ++ [x]) (acc + x.size) m (next_at hk) (by omega) (fun k hk => hs k (by simp [hk])) (by omega) (by rw [BIG_eq]; omega) (by simp; rw [BIG_eq]; omega)
    rw [len_snoc] at this
    rw [this]
    congr 1
    omega
theorem f83_ok : ∀ (n : Nat) (t : Tm), t.size < n → t.size ≤ BIG → f83 n t = some (t.size : Int)
  | 0, t, h, _ => by omega
  | n + 1, t, h, hb => by
    have := Tm.len_kids t
    have h1 := l63_ok (f83 n) n t.kids t.kids [] 1 n rfl (by omega) (fun k hk => f83_ok n k (by have := Tm.size_kid hk; omega) (by have := Tm.size_kid hk; omega)) (by omega) (by rw [Tm.size_eq] at hb; omega) (by simp; omega)
    rw [len_nil] at h1
    simp only [f83, o83_0, ifB_eq]
    rw [h1, Tm.size_eq t]
    rfl
mutual
def Tm.deep : Tm → Nat
  | .mk _ _ _ _ ks => Tm.deeps ks + 1
def Tm.deeps : List Tm → Nat
  | [] => 0
  | k :: ks => max k.deep (Tm.deeps ks)
end
theorem Tm.deep_eq (t : Tm) : t.deep = Tm.deeps t.kids + 1 := by cases t; rfl
mutual
theorem Tm.deep_size : ∀ t : Tm, t.deep ≤ t.size
  | .mk _ _ _ _ ks => by have := Tm.deeps_size ks; simp only [Tm.deep, Tm.size]; omega
theorem Tm.deeps_size : ∀ ks : List Tm, Tm.deeps ks ≤ Tm.sizes ks
  | [] => by simp [Tm.deeps, Tm.sizes]
  | k :: ks => by
    have := Tm.deep_size k
    have := Tm.deeps_size ks
    simp only [Tm.deeps, Tm.sizes]
    omega
end
mutual
def Tm.weigh : Tm → Int → Int → Int
  | .mk _ _ _ _ ks, most, deep => if deep < 0 then most + 1 else Tm.weighL ks most deep 1
def Tm.weighL : List Tm → Int → Int → Int → Int
  | [], _, _, n => n
  | k :: ks, most, deep, n => if n ≤ most then Tm.weighL ks most deep (n + k.weigh (most - n) (deep - 1)) else n
end
mutual
theorem Tm.weigh_bound : ∀ (d : Tm) (most deep : Int), 0 ≤ most → 1 ≤ d.weigh most deep ∧ d.weigh most deep ≤ most + 1
  | .mk _ _ _ _ ks, most, deep, h => by
    simp only [Tm.weigh]
    split
    · omega
    · have := Tm.weighL_bound ks most deep 1 h (by omega) (by omega)
      omega
theorem Tm.weighL_bound : ∀ (ks : List Tm) (most deep n : Int), 0 ≤ most → 1 ≤ n → n ≤ most + 1 → n ≤ Tm.weighL ks most deep n ∧ Tm.weighL ks most deep n ≤ most + 1
  | [], most, deep, n, h, h1, h2 => by simp only [Tm.weighL]; omega
  | k :: ks, most, deep, n, h, h1, h2 => by
    simp only [Tm.weighL]
    split
    · have := Tm.weigh_bound k (most - n) (deep - 1) (by omega)
      have := Tm.weighL_bound ks most deep (n + k.weigh (most - n) (deep - 1)) h (by omega) (by omega)
      omega
    · omega
end
mutual
theorem Tm.weigh_size : ∀ (d : Tm) (most deep : Int), 0 ≤ most → -1 ≤ deep → d.weigh most deep ≤ most → (d.size : Int) = d.weigh most deep ∧ (d.deep : Int) ≤ deep + 1
  | .mk _ _ _ _ ks, most, deep, h, hd, hw => by
    simp only [Tm.weigh] at hw ⊢
    split at hw
    · omega
    · rename_i hn
      rw [if_neg hn]
      have := Tm.weighL_size ks most deep 1 h (by omega) (by omega) hw
      simp only [Tm.size, Tm.deep]
      omega
theorem Tm.weighL_size : ∀ (ks : List Tm) (most deep n : Int), 0 ≤ most → 0 ≤ deep → 1 ≤ n → Tm.weighL ks most deep n ≤ most → Tm.weighL ks most deep n = n + (Tm.sizes ks : Int) ∧ (Tm.deeps ks : Int) ≤ deep
  | [], most, deep, n, h, hd, h1, hw => by simp only [Tm.weighL, Tm.sizes, Tm.deeps]; omega
  | k :: ks, most, deep, n, h, hd, h1, hw => by
    simp only [Tm.weighL] at hw ⊢
    split at hw
    · rename_i hn
      rw [if_pos hn]
      have b := Tm.weigh_bound k (most - n) (deep - 1) (by omega)
      have e := Tm.weighL_size ks most deep (n + k.weigh (most - n) (deep - 1)) h hd (by omega) hw
      have c := Tm.weigh_size k (most - n) (deep - 1) (by omega) (by omega) (by omega)
      simp only [Tm.sizes, Tm.deeps]
      omega
    · omega
end
end Go.Proofs.YtcaahmielncmpaaGreat

namespace Go.Proofs.YtcaahmielncmpaaGreat
open Go

/-! ## Right terms -/
def lev (n : Int) : Bool := decide (0 ≤ n) && decide (n ≤ 1000)
def tnums (k i j n : Int) : Bool :=
  if k = 2 then decide (0 ≤ i) && (decide (i ≤ 2147483647) && (decide (j = 0) && decide (n = 0)))
  else if 3 ≤ k ∧ k ≤ 9 then lev i && (lev j && decide (n = 0))
  else if k = 1 ∨ k = 10 ∨ k = 11 ∨ k = 12 then lev i && (decide (j = 0) && decide (n = 0))
  else if k = 23 then lev i && lev j
  else decide (i = 0) && (decide (j = 0) && decide (n = 0))
def Tm.node (t : Tm) : Bool := decide ((t.kids.length : Int) = tkids t.kind t.n) && tnums t.kind t.i t.j t.n

theorem f145_eq (n : Int) : f145 n = some (lev n) := by
  unfold f145 o145_0 lev
  simp only [ifB_eq]
  grind
theorem f142_eq (n : Int) : f142 n = some (lev n) := by
  unfold f142 o142_0 lev
  simp only [ifB_eq]
  grind
theorem f138_eq (t : Tm) : f138 t = some (tnums t.kind t.i t.j t.n) := by
  unfold f138 o138_0 c138_1 o138_1 c138_2 o138_2 tnums
  simp only [ifB_eq]
  simp only [f145_eq, Option.bind_some]
  grind (splits := 100)
theorem f133_eq (t : Tm) : f133 t = some (tnums t.kind t.i t.j t.n) := by
  unfold f133 o133_0 c133_1 o133_1 c133_2 o133_2 tnums
  simp only [ifB_eq]
  simp only [f142_eq, Option.bind_some]
  grind (splits := 100)
theorem f125_eq (t : Tm) : f125 t = some t.node := by
  unfold f125 o125_0 Tm.node
  simp only [ifB_eq]
  simp only [f137_eq, f138_eq, Option.bind_some]
  grind
theorem f131_eq (k : Int) : f131 k = some (if k = 1 ∨ k = 2 then 0 else if k ≤ 12 then 1 else 2) := by
  unfold f131 o131_0 c131_1 o131_1
  simp only [ifB_eq]
  grind

mutual
def Tm.plain : Tm → Bool
  | .mk k i j n ks => (decide (k = 1) || (decide (k = 2) || (decide (13 ≤ k) && decide (k ≤ 23)))) && ((Tm.mk k i j n ks).node && Tm.plains ks)
def Tm.plains : List Tm → Bool
  | [] => true
  | x :: xs => x.plain && Tm.plains xs
end
mutual
def Tm.marked : Tm → Bool
  | .mk k i j n ks => (decide (1 ≤ k) && decide (k ≤ 12)) && ((Tm.mk k i j n ks).node && Tm.markeds k 0 ks)
def Tm.markeds (k : Int) : Nat → List Tm → Bool
  | _, [] => true
  | i, x :: xs => (if k = 12 ∧ i = 2 then x.plain else x.marked) && Tm.markeds k (i + 1) xs
end
theorem Tm.plain_eq (t : Tm) : t.plain = ((decide (t.kind = 1) || (decide (t.kind = 2) || (decide (13 ≤ t.kind) && decide (t.kind ≤ 23)))) && (t.node && Tm.plains t.kids)) := by cases t; rfl
theorem Tm.marked_eq (t : Tm) : t.marked = ((decide (1 ≤ t.kind) && decide (t.kind ≤ 12)) && (t.node && Tm.markeds t.kind 0 t.kids)) := by cases t; rfl

/-- Lists that the program can hold. -/
theorem idx_ok {n : Nat} (h : n ≤ BIG) : -9223372036854775808 ≤ (n : Int) + 1 ∧ (n : Int) + 1 ≤ 9223372036854775807 := by rw [BIG_eq] at h; omega

theorem l77_ok (s : Tm → Option Bool) (n : Nat) (t : Tm) (hb : t.kids.length ≤ BIG) : ∀ (rest pre : List Tm) (m : Nat), t.kids = pre ++ rest → rest.length < m → (∀ k ∈ rest, s k = some k.plain) →
    l126_2 s n m t (pre.length : Int) = some (Tm.plains rest) := by
  intro rest
  induction rest with
  | nil =>
    intro pre m hk hm _
    obtain ⟨m, rfl⟩ := fuel hm
    simp only [l126_2, o126_2, decide_eq_true_eq, ifB_eq]
    rw [if_neg (ge_at hk)]
    rfl
  | cons x rest ih =>
    intro pre m hk hm hs
    obtain ⟨m, rfl⟩ := fuel hm
    simp only [List.length_cons] at hm
    have hp : pre.length ≤ BIG := by rw [hk] at hb; simp at hb; omega
    simp only [l126_2, o126_2, decide_eq_true_eq, ifB_eq]
    rw [if_pos (lt_at hk), atI_at hk, hs x (by simp), Option.bind_some, ckI_eq (idx_ok hp)]
    have := ih (pre ++ [x]) m (next_at hk) (by omega) (fun k hk => hs k (by simp [hk]))
    rw [len_snoc] at this
    rw [this]
    simp only [Tm.plains]
    cases x.plain <;> rfl
theorem f126_ok : ∀ (n : Nat) (t : Tm), t.size < n → t.size ≤ BIG → f126 n t = some t.plain
  | 0, t, h, _ => by omega
  | n + 1, t, h, hb => by
    have hl := Tm.len_kids t
    have h1 := l77_ok (f126 n) n t (by omega) t.kids [] n rfl (by omega) (fun k hk => f126_ok n k (by have := Tm.size_kid hk; omega) (by have := Tm.size_kid hk; omega))
    rw [len_nil] at h1
    simp only [f126, o126_0, c126_1, o126_1, h1, f125_eq, Option.bind_some, ifB_eq]
    rw [Tm.plain_eq]
    grind
theorem l70_ok (s : Tm → Option Bool) (n : Nat) (t : Tm) (hb : t.kids.length ≤ BIG) : ∀ (rest pre : List Tm) (m : Nat), t.kids = pre ++ rest → rest.length < m → (∀ k ∈ rest, s k = some k.marked) → (∀ k ∈ rest, f126 n k = some k.plain) →
    l106_2 s n m t (pre.length : Int) = some (Tm.markeds t.kind pre.length rest) := by
  intro rest
  induction rest with
  | nil =>
    intro pre m hk hm _ _
    obtain ⟨m, rfl⟩ := fuel hm
    simp only [l106_2, o106_2, decide_eq_true_eq, ifB_eq]
    rw [if_neg (ge_at hk)]
    rfl
  | cons x rest ih =>
    intro pre m hk hm hs hq
    obtain ⟨m, rfl⟩ := fuel hm
    simp only [List.length_cons] at hm
    have hp : pre.length ≤ BIG := by rw [hk] at hb; simp at hb; omega
    have := ih (pre ++ [x]) m (next_at hk) (by omega) (fun k hk => hs k (by simp [hk])) (fun k hk => hq k (by simp [hk]))
    rw [len_snoc, List.length_append, List.length_singleton] at this
    have h1 : ∀ b : Bool, c106_3 s n (l106_2 s n m) t (pre.length : Int) b = some ((if b then x.plain else x.marked) && Tm.markeds t.kind (pre.length + 1) rest) := by
      intro b
      simp only [c106_3, o106_3, ifB_eq]
      rw [atI_at hk, atI_at hk, hs x (by simp), hq x (by simp), Option.bind_some, Option.bind_some, ckI_eq (idx_ok hp), this]
      cases b <;> cases x.plain <;> cases x.marked <;> rfl
    simp only [l106_2, o106_2, decide_eq_true_eq, ifB_eq]
    rw [if_pos (lt_at hk), h1, h1]
    simp only [Tm.markeds]
    by_cases h12 : t.kind = 12
    · by_cases h2 : pre.length = 2
      · simp [h12, h2]
      · have : ¬ (pre.length : Int) = 2 := by omega
        simp [h12, h2, this]
    · simp [h12]
theorem f106_ok : ∀ (n : Nat) (t : Tm), t.size < n → t.size ≤ BIG → f106 n t = some t.marked
  | 0, t, h, _ => by omega
  | n + 1, t, h, hb => by
    have hl := Tm.len_kids t
    have h1 := l70_ok (f106 n) n t (by omega) t.kids [] n rfl (by omega) (fun k hk => f106_ok n k (by have := Tm.size_kid hk; omega) (by have := Tm.size_kid hk; omega)) (fun k hk => f126_ok n k (by have := Tm.size_kid hk; omega) (by have := Tm.size_kid hk; omega))
    rw [len_nil] at h1
    simp only [f106, o106_0, c106_1, o106_1, h1, f125_eq, Option.bind_some, ifB_eq]
    rw [Tm.marked_eq]
    grind
def Tm.right (t : Tm) : Bool := t.marked || t.plain
theorem f108_ok (n : Nat) (t : Tm) (h : t.size < n) (hb : t.size ≤ BIG) : f108 n t = some t.right := by
  simp only [f108, o108_0, f106_ok n t h hb, f126_ok n t h hb, Option.bind_some, Tm.right, ifB_eq]
  cases t.marked <;> rfl

/-! ### the program's right -/
def Tm.rightW (w : Int) (t : Tm) : Bool := if w = 1 then t.marked else if w = 2 then t.plain else t.right
def rightL (k s : Int) : Nat → List Tm → Bool
  | _, [] => true
  | i, x :: xs => (if k = 12 ∧ i = 2 then x.plain else x.rightW s) && rightL k s (i + 1) xs
theorem rightL_marked (k : Int) : ∀ (i : Nat) (l : List Tm), rightL k 1 i l = Tm.markeds k i l
  | _, [] => rfl
  | i, x :: xs => by simp [rightL, Tm.markeds, rightL_marked k (i + 1) xs, Tm.rightW]
theorem rightL_plain (k : Int) (h : k ≠ 12) : ∀ (i : Nat) (l : List Tm), rightL k 2 i l = Tm.plains l
  | _, [] => rfl
  | i, x :: xs => by simp [rightL, Tm.plains, rightL_plain k h (i + 1) xs, Tm.rightW, h]
theorem l128_ok (s : Tm → Int → Option Bool) (n : Nat) (t : Tm) (w : Int) (hw : w = 0 ∨ w = 1 ∨ w = 2) (hb : t.kids.length ≤ BIG) : ∀ (rest pre : List Tm) (m : Nat), t.kids = pre ++ rest → rest.length < m → (∀ k ∈ rest, ∀ w, w = 0 ∨ w = 1 ∨ w = 2 → s k w = some (k.rightW w)) →
    l119_3 s n m t w t.kids (t.kids.length : Int) (pre.length : Int) = some (rightL t.kind w pre.length rest) := by
  intro rest
  induction rest with
  | nil =>
    intro pre m hk hm _
    obtain ⟨m, rfl⟩ := fuel hm
    simp only [l119_3, o119_3, decide_eq_true_eq, ifB_eq]
    rw [if_neg (ge_at hk)]
    rfl
  | cons x rest ih =>
    intro pre m hk hm hs
    obtain ⟨m, rfl⟩ := fuel hm
    simp only [List.length_cons] at hm
    have hp : pre.length ≤ BIG := by rw [hk] at hb; simp at hb; omega
    have := ih (pre ++ [x]) m (next_at hk) (by omega) (fun k hk => hs k (by simp [hk]))
    rw [len_snoc, List.length_append, List.length_singleton] at this
    have hx := hs x (by simp)
    simp only [l119_3, o119_3, decide_eq_true_eq, ifB_eq]
    rw [if_pos (lt_at hk), atI_at hk, hx 2 (by simp), hx w hw, Option.bind_some, Option.bind_some, ckI_eq (idx_ok hp), this]
    simp only [rightL]
    have e2 : x.rightW 2 = x.plain := by simp [Tm.rightW]
    rw [e2]
    by_cases h12 : t.kind = 12
    · by_cases h2 : pre.length = 2
      · simp only [h12, h2]; cases x.plain <;> rfl
      · have h3 : ¬ (pre.length : Int) = 2 := by omega
        simp only [h12, h2, h3, if_true, if_false, true_and]; cases x.rightW w <;> rfl
    · simp only [h12, if_false, false_and]; cases x.rightW w <;> rfl
theorem tkids_zero {k s : Int} (h : k = 1 ∨ k = 2) : tkids k s = 0 := by unfold tkids; rw [if_pos h]
theorem tkids_out {k s : Int} (h : k < 1 ∨ 23 < k) : tkids k s = -1 := by
  unfold tkids
  rw [if_neg (by omega), if_neg (by omega), if_neg (by omega), if_neg (by omega), if_neg (by omega), if_neg (by omega), if_neg (by omega)]
theorem node_range {t : Tm} (h : t.node = true) : 1 ≤ t.kind ∧ t.kind ≤ 23 := by
  unfold Tm.node at h
  simp only [Bool.and_eq_true, decide_eq_true_eq] at h
  rcases Classical.em (1 ≤ t.kind ∧ t.kind ≤ 23) with h1 | h1
  · exact h1
  · have := tkids_out (k := t.kind) (s := t.n) (by omega)
    omega
theorem node_nil {t : Tm} (h : t.node = true) (hk : t.kind = 1 ∨ t.kind = 2) : t.kids = [] := by
  unfold Tm.node at h
  simp only [Bool.and_eq_true, decide_eq_true_eq] at h
  rw [tkids_zero hk] at h
  exact List.length_eq_zero_iff.1 (by omega)
theorem rightW_of (t : Tm) (w : Int) (hw : w = 0 ∨ w = 1 ∨ w = 2) (s : Int) (hs : s = if t.kind = 1 ∨ t.kind = 2 then 0 else if t.kind ≤ 12 then 1 else 2) :
    (if (!decide (w = 0)) = true then if (!decide (s = 0)) = true then if (!decide (s = w)) = true then some false else some (t.node && rightL t.kind s 0 t.kids) else some (t.node && rightL t.kind s 0 t.kids) else some (t.node && rightL t.kind s 0 t.kids)) = some (t.rightW w) := by
  cases hn : t.node with
  | false =>
    have h1 : t.marked = false := by rw [Tm.marked_eq, hn]; simp
    have h2 : t.plain = false := by rw [Tm.plain_eq, hn]; simp
    simp only [Tm.rightW, Tm.right, h1, h2, Bool.false_and, Bool.or_self, ite_self]
  | true =>
    have hr := node_range hn
    rw [Bool.true_and]
    by_cases hk : t.kind = 1 ∨ t.kind = 2
    · have hnil := node_nil hn hk
      have h1 : t.marked = true := by rw [Tm.marked_eq, hn, hnil]; simp [Tm.markeds]; omega
      have h2 : t.plain = true := by rw [Tm.plain_eq, hn, hnil]; simp [Tm.plains]; omega
      rw [if_pos hk] at hs
      subst hs
      simp [hnil, rightL, Tm.rightW, Tm.right, h1, h2]
    · rw [if_neg hk] at hs
      by_cases h12 : t.kind ≤ 12
      · rw [if_pos h12] at hs
        subst hs
        have h2 : t.plain = false := by rw [Tm.plain_eq]; simp; omega
        have h1 : t.marked = Tm.markeds t.kind 0 t.kids := by rw [Tm.marked_eq, hn]; simp; omega
        rw [rightL_marked]
        rcases hw with rfl | rfl | rfl <;> simp [Tm.rightW, Tm.right, h1, h2]
      · rw [if_neg h12] at hs
        subst hs
        have h2 : t.marked = false := by rw [Tm.marked_eq]; simp; omega
        have h1 : t.plain = Tm.plains t.kids := by rw [Tm.plain_eq, hn]; simp; omega
        rw [rightL_plain _ (by omega)]
        rcases hw with rfl | rfl | rfl <;> simp [Tm.rightW, Tm.right, h1, h2]
theorem f119_ok : ∀ (n : Nat) (t : Tm) (w : Int), w = 0 ∨ w = 1 ∨ w = 2 → t.size < n → t.size ≤ BIG → f119 n t w = some (t.rightW w)
  | 0, t, w, _, h, _ => by omega
  | n + 1, t, w, hw, h, hb => by
    have hl := Tm.len_kids t
    generalize hs : (if t.kind = 1 ∨ t.kind = 2 then 0 else if t.kind ≤ 12 then 1 else 2 : Int) = s
    have hs' : s = 0 ∨ s = 1 ∨ s = 2 := by
      rw [← hs]
      split
      · simp
      · split <;> simp
    have h1 := l128_ok (f119 n) n t s hs' (by omega) t.kids [] n rfl (by omega) (fun k hk w hw => f119_ok n k w hw (by have := Tm.size_kid hk; omega) (by have := Tm.size_kid hk; omega))
    rw [len_nil, List.length_nil] at h1
    have h2 : c119_1 (f119 n) n (l119_3 (f119 n) n n) t s = some (t.node && rightL t.kind s 0 t.kids) := by
      simp only [c119_1, o119_1, c119_2, o119_2, h1, f132_eq, f133_eq, Option.bind_some, ifB_eq]
      unfold Tm.node
      generalize decide ((t.kids.length : Int) = tkids t.kind t.n) = b1
      generalize tnums t.kind t.i t.j t.n = b2
      cases b1 <;> cases b2 <;> rfl
    simp only [f119, o119_0, f131_eq, Option.bind_some, hs, h2, ifB_eq]
    exact rightW_of t w hw s hs.symm
theorem f91_ok (n : Nat) (t : Tm) (h : t.size < n) (hb : t.size ≤ BIG) : f91 n t = some t.right := by
  simp only [f91, o91_0, ifB_eq]
  rw [f119_ok n t 0 (by simp) h hb]
  rfl
theorem f89_ok (n : Nat) (t : Tm) (h : t.size < n) (hb : t.size ≤ BIG) : f89 n t = some t.marked := by
  simp only [f89, o89_0, ifB_eq]
  rw [f119_ok n t 1 (by simp) h hb]
  rfl
mutual
def Tm.count : Tm → Nat
  | .mk k _ _ _ ks => (if k = 12 then 1 else 0) + Tm.counts ks
def Tm.counts : List Tm → Nat
  | [] => 0
  | k :: ks => k.count + Tm.counts ks
end
theorem Tm.count_eq (t : Tm) : t.count = (if t.kind = 12 then 1 else 0) + Tm.counts t.kids := by cases t; rfl
mutual
theorem Tm.count_size : ∀ t : Tm, t.count ≤ t.size
  | .mk _ _ _ _ ks => by have := Tm.counts_size ks; simp only [Tm.count, Tm.size]; split <;> omega
theorem Tm.counts_size : ∀ ks : List Tm, Tm.counts ks ≤ Tm.sizes ks
  | [] => by simp [Tm.counts, Tm.sizes]
  | k :: ks => by
    have := Tm.count_size k
    have := Tm.counts_size ks
    simp only [Tm.counts, Tm.sizes]
    omega
end
theorem l71_ok (s : Tm → Option Int) (n : Nat) (t : Tm) : ∀ (rest pre : List Tm) (acc : Int) (m : Nat), t.kids = pre ++ rest → rest.length < m → (∀ k ∈ rest, s k = some (k.count : Int)) → 0 ≤ acc → acc + Tm.sizes rest ≤ 2 * BIG → pre.length + rest.length ≤ BIG →
    l107_2 s n m t acc (pre.length : Int) = some (acc + Tm.counts rest) := by
  intro rest
  induction rest with
  | nil =>
    intro pre acc m hk hm _ _ _ _
    obtain ⟨m, rfl⟩ := fuel hm
    simp only [l107_2, o107_2, decide_eq_true_eq, ifB_eq]
    rw [if_neg (ge_at hk)]
    simp [Tm.counts]
  | cons x rest ih =>
    intro pre acc m hk hm hs h0 hb hl
    obtain ⟨m, rfl⟩ := fuel hm
    simp only [Tm.sizes] at hb
    simp only [Tm.counts]
    have hx := Tm.count_size x
    rw [BIG_eq] at hb hl
    simp only [List.length_cons] at hl hm
    simp only [l107_2, o107_2, decide_eq_true_eq, ifB_eq]
    rw [if_pos (lt_at hk), atI_at hk, hs x (by simp), Option.bind_some, ckI_eq (by omega), ckI_eq (by omega)]
    have := ih (pre ++ [x]) (acc + x.count) m (next_at hk) (by omega) (fun k hk => hs k (by simp [hk])) (by omega) (by rw [BIG_eq]; omega) (by simp; rw [BIG_eq]; omega)
    rw [len_snoc] at this
    rw [this]
    congr 1
    omega
theorem f107_ok : ∀ (n : Nat) (t : Tm), t.size < n → t.size ≤ BIG → f107 n t = some (t.count : Int)
  | 0, t, h, _ => by omega
  | n + 1, t, h, hb => by
    have hl := Tm.len_kids t
    have h1 := fun acc (h0 : 0 ≤ acc) (h2 : acc ≤ 1) => l71_ok (f107 n) n t t.kids [] acc n rfl (by omega) (fun k hk => f107_ok n k (by have := Tm.size_kid hk; omega) (by have := Tm.size_kid hk; omega)) h0 (by rw [Tm.size_eq] at hb; rw [BIG_eq] at hb ⊢; omega) (by simp; omega)
    rw [len_nil] at h1
    simp only [f107, o107_0, c107_1, o107_1, ifB_eq]
    rw [h1 1 (by omega) (by omega), h1 0 (by omega) (by omega), Tm.count_eq]
    by_cases h12 : t.kind = 12 <;> simp [h12]
theorem l129_ok (s : Tm → Option Bool) (n : Nat) (ks : List Tm) (hb : ks.length ≤ BIG) : ∀ (rest pre : List Tm) (m : Nat), ks = pre ++ rest → rest.length < m → (∀ k ∈ rest, s k = some (!decide (k.count = 0))) →
    l90_1 s n m ks (ks.length : Int) (pre.length : Int) = some (!decide (Tm.counts rest = 0)) := by
  intro rest
  induction rest with
  | nil =>
    intro pre m hk hm _
    obtain ⟨m, rfl⟩ := fuel hm
    simp only [l90_1, o90_1, decide_eq_true_eq, ifB_eq]
    rw [if_neg (ge_at hk)]
    rfl
  | cons x rest ih =>
    intro pre m hk hm hs
    obtain ⟨m, rfl⟩ := fuel hm
    simp only [List.length_cons] at hm
    have hp : pre.length ≤ BIG := by rw [hk] at hb; simp at hb; omega
    have := ih (pre ++ [x]) m (next_at hk) (by omega) (fun k hk => hs k (by simp [hk]))
    rw [len_snoc] at this
    simp only [l90_1, o90_1, decide_eq_true_eq, ifB_eq]
    rw [if_pos (lt_at hk), atI_at hk, hs x (by simp), Option.bind_some, ckI_eq (idx_ok hp), this]
    simp only [Tm.counts]
    by_cases h0 : x.count = 0
    · simp [h0]
    · have : ¬ (x.count + Tm.counts rest = 0) := by omega
      simp [h0, this]
theorem f90_ok : ∀ (n : Nat) (t : Tm), t.size < n → t.size ≤ BIG → f90 n t = some (!decide (t.count = 0))
  | 0, t, h, _ => by omega
  | n + 1, t, h, hb => by
    have hl := Tm.len_kids t
    have h1 := l129_ok (f90 n) n t.kids (by omega) t.kids [] n rfl (by omega) (fun k hk => f90_ok n k (by have := Tm.size_kid hk; omega) (by have := Tm.size_kid hk; omega))
    rw [len_nil] at h1
    simp only [f90, o90_0, h1, ifB_eq]
    rw [Tm.count_eq]
    by_cases h12 : t.kind = 12 <;> simp [h12]
def Tm.pure (t : Tm) : Bool := t.marked && decide (t.count = 0)
theorem f58_ok (n : Nat) (t : Tm) (h : t.size < n) (hb : t.size ≤ BIG) : f58 n t = some t.pure := by
  simp only [f58, o58_0, ifB_eq]
  rw [f89_ok n t h hb, f90_ok n t h hb, Option.bind_some, Option.bind_some, Tm.pure]
  cases t.marked <;> simp
theorem f69_ok (n : Nat) (t : Tm) (h : t.size < n) (hb : t.size ≤ BIG) : f69 n t = some t.pure := by
  simp only [f69, o69_0, ifB_eq]
  rw [f106_ok n t h hb, f107_ok n t h hb, Option.bind_some, Option.bind_some, Tm.pure]
  cases t.marked <;> simp
end Go.Proofs.YtcaahmielncmpaaGreat

namespace Go.Proofs.YtcaahmielncmpaaGreat
open Go

/-! ## The same terms -/
mutual
def Tm.same : Tm → Tm → Bool
  | .mk k i j n ks, .mk k' i' j' n' ks' => decide (k = k') && (decide (i = i') && (decide (j = j') && (decide (n = n') && Tm.sames ks ks')))
def Tm.sames : List Tm → List Tm → Bool
  | [], [] => true
  | x :: xs, y :: ys => x.same y && Tm.sames xs ys
  | [], _ :: _ => false
  | _ :: _, [] => false
end
theorem Tm.same_eq (a b : Tm) : a.same b = (decide (a.kind = b.kind) && (decide (a.i = b.i) && (decide (a.j = b.j) && (decide (a.n = b.n) && Tm.sames a.kids b.kids)))) := by cases a; cases b; rfl
mutual
theorem Tm.same_iff : ∀ a b : Tm, a.same b = true ↔ a = b
  | .mk k i j n ks, .mk k' i' j' n' ks' => by
    simp only [Tm.same, Bool.and_eq_true, decide_eq_true_eq, Tm.sames_iff ks ks', Tm.mk.injEq]
theorem Tm.sames_iff : ∀ a b : List Tm, Tm.sames a b = true ↔ a = b
  | [], [] => by simp [Tm.sames]
  | x :: xs, y :: ys => by simp only [Tm.sames, Bool.and_eq_true, Tm.same_iff x y, Tm.sames_iff xs ys, List.cons.injEq]
  | [], _ :: _ => by simp [Tm.sames]
  | _ :: _, [] => by simp [Tm.sames]
end
theorem Tm.sames_length {a b : List Tm} (h : a.length ≠ b.length) : Tm.sames a b = false := by
  cases h2 : Tm.sames a b with
  | false => rfl
  | true => exact absurd (congrArg List.length ((Tm.sames_iff a b).1 h2)) h
theorem l122_ok (s : Tm → Tm → Option Bool) (n : Nat) (t u : Tm) (hb : t.kids.length ≤ BIG) : ∀ (r r' pre pre' : List Tm) (m : Nat), t.kids = pre ++ r → u.kids = pre' ++ r' → pre.length = pre'.length → r.length = r'.length → r.length < m → (∀ k ∈ r, ∀ k', s k k' = some (k.same k')) →
    l122_2 s n m t u (t.kids.length : Int) (pre.length : Int) = some (Tm.sames r r') := by
  intro r
  induction r with
  | nil =>
    intro r' pre pre' m hk hk' hp hr hm _
    obtain ⟨m, rfl⟩ := fuel hm
    obtain rfl : r' = [] := List.length_eq_zero_iff.1 hr.symm
    simp only [l122_2, o122_2, decide_eq_true_eq, ifB_eq]
    rw [if_neg (ge_at hk)]
    rfl
  | cons x r ih =>
    intro r' pre pre' m hk hk' hp hr hm hs
    obtain ⟨m, rfl⟩ := fuel hm
    match r', hr with
    | y :: r', hr =>
      simp only [List.length_cons] at hm hr
      have hpl : pre.length ≤ BIG := by rw [hk] at hb; simp at hb; omega
      have := ih r' (pre ++ [x]) (pre' ++ [y]) m (next_at hk) (next_at hk') (by simp [hp]) (by omega) (by omega) (fun k hk => hs k (by simp [hk]))
      rw [len_snoc] at this
      simp only [l122_2, o122_2, decide_eq_true_eq, ifB_eq]
      have h2 := fun (k : Tm → Option Bool) => atI_at hk' k
      rw [← hp] at h2
      rw [if_pos (lt_at hk), atI_at hk, h2, hs x (by simp), Option.bind_some, ckI_eq (idx_ok hpl), this]
      simp only [Tm.sames]
      cases x.same y <;> rfl
theorem f122_ok : ∀ (n : Nat) (a b : Tm), a.size < n → a.size ≤ BIG → f122 n a b = some (a.same b)
  | 0, a, b, h, _ => by omega
  | n + 1, a, b, h, hb => by
    have hl := Tm.len_kids a
    simp only [f122, o122_0, c122_1, o122_1, ifB_eq]
    rw [Tm.same_eq]
    by_cases hlen : a.kids.length = b.kids.length
    · have h1 := l122_ok (f122 n) n a b (by omega) a.kids b.kids [] [] n rfl rfl rfl hlen (by omega) (fun k hk k' => f122_ok n k k' (by have := Tm.size_kid hk; omega) (by have := Tm.size_kid hk; omega))
      rw [len_nil] at h1
      rw [h1]
      have : (a.kids.length : Int) = b.kids.length := by omega
      simp only [this, decide_true, Bool.not_true, Bool.false_eq_true, if_false]
      grind
    · have : ¬ (a.kids.length : Int) = b.kids.length := by omega
      simp only [Tm.sames_length hlen, this, decide_false, Bool.not_false, if_true]
      grind
theorem f96_ok (n : Nat) (a b : Tm) (h : a.size < n) (hb : a.size ≤ BIG) : f96 n a b = some (a.same b) := by
  simp only [f96, o96_0, ifB_eq]
  rw [f122_ok n a b h hb]
  rfl
theorem l118_ok (s : Tm → Tm → Option Bool) (s2 : List Tm → List Tm → Option Bool) (n : Nat) (ks us : List Tm) (hb : ks.length ≤ BIG) : ∀ (r r' pre pre' : List Tm) (m : Nat), ks = pre ++ r → us = pre' ++ r' → pre.length = pre'.length → r.length = r'.length → r.length < m → (∀ k ∈ r, ∀ k', s k k' = some (k.same k')) →
    l81_1 s s2 n m ks us (pre.length : Int) = some (Tm.sames r r') := by
  intro r
  induction r with
  | nil =>
    intro r' pre pre' m hk hk' hp hr hm _
    obtain ⟨m, rfl⟩ := fuel hm
    obtain rfl : r' = [] := List.length_eq_zero_iff.1 hr.symm
    simp only [l81_1, o81_1, decide_eq_true_eq, ifB_eq]
    rw [if_neg (ge_at hk)]
    rfl
  | cons x r ih =>
    intro r' pre pre' m hk hk' hp hr hm hs
    obtain ⟨m, rfl⟩ := fuel hm
    match r', hr with
    | y :: r', hr =>
      simp only [List.length_cons] at hm hr
      have hpl : pre.length ≤ BIG := by rw [hk] at hb; simp at hb; omega
      have := ih r' (pre ++ [x]) (pre' ++ [y]) m (next_at hk) (next_at hk') (by simp [hp]) (by omega) (by omega) (fun k hk => hs k (by simp [hk]))
      rw [len_snoc] at this
      simp only [l81_1, o81_1, decide_eq_true_eq, ifB_eq]
      have h2 := fun (k : Tm → Option Bool) => atI_at hk' k
      rw [← hp] at h2
      rw [if_pos (lt_at hk), atI_at hk, h2, hs x (by simp), Option.bind_some, ckI_eq (idx_ok hpl), this]
      simp only [Tm.sames]
      cases x.same y <;> rfl
theorem f43_both : ∀ (n : Nat), (∀ (a b : Tm), 2 * a.size < n → a.size ≤ BIG → f43 n a b = some (a.same b)) ∧ (∀ (a b : List Tm), 2 * Tm.sizes a + 1 < n → Tm.sizes a ≤ BIG → f81 n a b = some (Tm.sames a b))
  | 0 => ⟨fun a b h _ => by omega, fun a b h _ => by omega⟩
  | n + 1 => by
    obtain ⟨ih1, ih2⟩ := f43_both n
    refine ⟨fun a b h hb => ?_, fun a b h hb => ?_⟩
    · have hz := Tm.size_eq a
      simp only [f43, o43_0, ifB_eq]
      rw [ih2 a.kids b.kids (by omega) (by omega), Tm.same_eq, Option.bind_some]
      grind
    · have hl := Tm.length_le a
      simp only [f81, o81_0, ifB_eq]
      by_cases hlen : a.length = b.length
      · have h1 := l118_ok (f43 n) (f81 n) n a b (by omega) a b [] [] n rfl rfl rfl hlen (by omega) (fun k hk k' => ih1 k k' (by have := Tm.size_mem hk; omega) (by have := Tm.size_mem hk; omega))
        rw [len_nil] at h1
        rw [h1]
        have : (a.length : Int) = b.length := by omega
        simp [this]
      · have : ¬ (a.length : Int) = b.length := by omega
        simp [this, Tm.sames_length hlen]
theorem f43_ok (n : Nat) (a b : Tm) (h : 2 * a.size < n) (hb : a.size ≤ BIG) : f43 n a b = some (a.same b) := (f43_both n).1 a b h hb

/-! ## Twins -/
/-! ## Kids of right terms -/
theorem Tm.plains_mem {ks : List Tm} (h : Tm.plains ks = true) {x : Tm} (hx : x ∈ ks) : x.plain = true := by
  induction ks with
  | nil => cases hx
  | cons k ks ih =>
    simp only [Tm.plains, Bool.and_eq_true] at h
    rcases List.mem_cons.1 hx with rfl | hx
    · exact h.1
    · exact ih h.2 hx
theorem Tm.markeds_mem {k : Int} : ∀ {i : Nat} {ks : List Tm}, Tm.markeds k i ks = true → ∀ {x : Tm}, x ∈ ks → x.right = true
  | _, [], _, _, hx => by cases hx
  | i, y :: ks, h, x, hx => by
    simp only [Tm.markeds, Bool.and_eq_true] at h
    rcases List.mem_cons.1 hx with rfl | hx
    · have := h.1
      unfold Tm.right
      split at this <;> simp [this]
    · exact Tm.markeds_mem h.2 hx
theorem Tm.right_kid {t x : Tm} (h : t.right = true) (hx : x ∈ t.kids) : x.right = true := by
  unfold Tm.right at h
  rw [Bool.or_eq_true] at h
  rcases h with h | h
  · rw [Tm.marked_eq] at h
    simp only [Bool.and_eq_true] at h
    exact Tm.markeds_mem h.2.2 hx
  · rw [Tm.plain_eq] at h
    simp only [Bool.and_eq_true] at h
    unfold Tm.right
    simp [Tm.plains_mem h.2.2 hx]
theorem Tm.right_node {t : Tm} (h : t.right = true) : t.node = true := by
  unfold Tm.right at h
  rw [Bool.or_eq_true] at h
  rcases h with h | h
  · rw [Tm.marked_eq] at h; simp only [Bool.and_eq_true] at h; exact h.2.1
  · rw [Tm.plain_eq] at h; simp only [Bool.and_eq_true] at h; exact h.2.1
theorem Tm.right_var {t : Tm} (h : t.right = true) (hk : t.kind = 2) : 0 ≤ t.i ∧ t.i ≤ 2147483647 ∧ t.j = 0 ∧ t.n = 0 ∧ t.kids = [] := by
  have hn := Tm.right_node h
  have h1 := node_nil hn (.inr hk)
  unfold Tm.node tnums at hn
  rw [hk] at hn
  simp at hn
  exact ⟨hn.2.1, hn.2.2.1, hn.2.2.2.1, hn.2.2.2.2, h1⟩

/-! ## Free variables -/
theorem tbinds_range (k i : Int) : 0 ≤ tbinds k i ∧ tbinds k i ≤ 2 := by
  unfold tbinds
  grind
mutual
def Tm.free : Tm → Int
  | .mk k i _ _ ks => if k = 2 then i + 1 else Tm.frees k 0 ks
def Tm.frees (k : Int) : Nat → List Tm → Int
  | _, [] => 0
  | i, x :: xs => max (x.free - tbinds k i) (Tm.frees k (i + 1) xs)
end
theorem Tm.free_eq (t : Tm) : t.free = if t.kind = 2 then t.i + 1 else Tm.frees t.kind 0 t.kids := by cases t; rfl
mutual
theorem Tm.free_range : ∀ t : Tm, t.right = true → 0 ≤ t.free ∧ t.free ≤ 2147483648
  | .mk k i j n ks, h => by
    rw [Tm.free_eq]
    split
    · rename_i hk
      have := Tm.right_var h hk
      omega
    · exact Tm.frees_range k 0 ks (fun x hx => Tm.right_kid h hx)
theorem Tm.frees_range (k : Int) : ∀ (i : Nat) (ks : List Tm), (∀ x ∈ ks, x.right = true) → 0 ≤ Tm.frees k i ks ∧ Tm.frees k i ks ≤ 2147483648
  | _, [], _ => by simp [Tm.frees]
  | i, x :: xs, h => by
    have := Tm.free_range x (h x (by simp))
    have := Tm.frees_range k (i + 1) xs (fun y hy => h y (by simp [hy]))
    have := tbinds_range k i
    simp only [Tm.frees]
    omega
end
theorem l127_ok (s : Tm → Option Int) (n : Nat) (t : Tm) (hb : t.kids.length ≤ BIG) : ∀ (rest pre : List Tm) (acc : Int) (m : Nat), t.kids = pre ++ rest → rest.length < m → (∀ k ∈ rest, s k = some k.free ∧ k.right = true) → 0 ≤ acc →
    l109_1 s n m t acc (pre.length : Int) = some (max acc (Tm.frees t.kind pre.length rest)) := by
  intro rest
  induction rest with
  | nil =>
    intro pre acc m hk hm _ h0
    obtain ⟨m, rfl⟩ := fuel hm
    simp only [l109_1, o109_1, decide_eq_true_eq, ifB_eq]
    rw [if_neg (ge_at hk)]
    simp only [Tm.frees]
    congr 1
    omega
  | cons x rest ih =>
    intro pre acc m hk hm hs h0
    obtain ⟨m, rfl⟩ := fuel hm
    simp only [List.length_cons] at hm
    have hp : pre.length ≤ BIG := by rw [hk] at hb; simp at hb; omega
    have hx := hs x (by simp)
    have hr := Tm.free_range x hx.2
    have ht := tbinds_range t.kind pre.length
    have := ih (pre ++ [x]) (max acc (x.free - tbinds t.kind pre.length)) m (next_at hk) (by omega) (fun k hk => hs k (by simp [hk])) (by omega)
    rw [len_snoc, List.length_append, List.length_singleton] at this
    simp only [l109_1, o109_1, decide_eq_true_eq, ifB_eq]
    rw [if_pos (lt_at hk), atI_at hk, hx.1, Option.bind_some, f127_eq, Option.bind_some, ckI_eq (by omega), ckI_eq (idx_ok hp), this]
    simp only [Tm.frees]
    congr 1
    omega
theorem f109_ok : ∀ (n : Nat) (t : Tm), t.size < n → t.size ≤ BIG → t.right = true → f109 n t = some t.free
  | 0, t, h, _, _ => by omega
  | n + 1, t, h, hb, hr => by
    have hl := Tm.len_kids t
    have h1 := l127_ok (f109 n) n t (by omega) t.kids [] 0 n rfl (by omega) (fun k hk => ⟨f109_ok n k (by have := Tm.size_kid hk; omega) (by have := Tm.size_kid hk; omega) (Tm.right_kid hr hk), Tm.right_kid hr hk⟩) (by omega)
    rw [len_nil] at h1
    have h2 := Tm.free_range t hr
    simp only [f109, o109_0, h1, decide_eq_true_eq, ifB_eq]
    rw [Tm.free_eq] at h2 ⊢
    split
    · rename_i hk
      rw [if_pos hk] at h2
      rw [ckI_eq (by omega)]
    · rename_i hk
      rw [if_neg hk] at h2
      congr 1
      simp only [List.length_nil]
      omega
theorem f72_ok (n : Nat) (t : Tm) (h : t.size < n) (hb : t.size ≤ BIG) : f72 n t = some (if t.right = true then t.free else 0) := by
  simp only [f72, o72_0, ifB_eq]
  rw [f108_ok n t h hb, Option.bind_some]
  cases hr : t.right with
  | false => rfl
  | true => rw [f109_ok n t h hb hr]; rfl
theorem l130_ok (s : Tm → Int → Option Int) (n : Nat) (t : Tm) (deep : Int) (h0 : 0 ≤ deep) (h1 : deep ≤ 4 * BIG) (hb : t.kids.length ≤ BIG) : ∀ (rest pre : List Tm) (acc : Int) (m : Nat), t.kids = pre ++ rest → rest.length < m →
    (∀ k ∈ rest, k.right = true ∧ ∀ d, deep ≤ d → d ≤ deep + 2 → s k d = some (max (k.free - d) 0)) → 0 ≤ acc → l92_1 s n m deep t acc t.kids (t.kids.length : Int) (pre.length : Int) = some (max acc (max (Tm.frees t.kind pre.length rest - deep) 0)) := by
  intro rest
  induction rest with
  | nil =>
    intro pre acc m hk hm _ ha
    obtain ⟨m, rfl⟩ := fuel hm
    simp only [l92_1, o92_1, decide_eq_true_eq, ifB_eq]
    rw [if_neg (ge_at hk)]
    simp only [Tm.frees]
    congr 1
    omega
  | cons x rest ih =>
    intro pre acc m hk hm hs ha
    obtain ⟨m, rfl⟩ := fuel hm
    simp only [List.length_cons] at hm
    have hp : pre.length ≤ BIG := by rw [hk] at hb; simp at hb; omega
    have hx := hs x (by simp)
    have hr := Tm.free_range x hx.1
    have ht := tbinds_range t.kind pre.length
    have := ih (pre ++ [x]) (max acc (max (x.free - (deep + tbinds t.kind pre.length)) 0)) m (next_at hk) (by omega) (fun k hk => hs k (by simp [hk])) (by omega)
    rw [len_snoc, List.length_append, List.length_singleton] at this
    simp only [l92_1, o92_1, decide_eq_true_eq, ifB_eq]
    rw [if_pos (lt_at hk), atI_at hk, f120_eq, Option.bind_some, ckI_eq (by rw [BIG_eq] at h1; omega), hx.2 _ (by omega) (by omega), Option.bind_some, ckI_eq (idx_ok hp), this]
    simp only [Tm.frees]
    congr 1
    omega
theorem f92_ok : ∀ (n : Nat) (t : Tm) (deep : Int), t.size < n → t.size ≤ BIG → t.right = true → 0 ≤ deep → deep + 2 * t.size ≤ 4 * BIG → f92 n t deep = some (max (t.free - deep) 0)
  | 0, t, _, h, _, _, _, _ => by omega
  | n + 1, t, deep, h, hb, hr, h0, hd => by
    have hl := Tm.len_kids t
    have h1 := l130_ok (f92 n) n t deep h0 (by omega) (by omega) t.kids [] 0 n rfl (by omega) (fun k hk => ⟨Tm.right_kid hr hk, fun d hd1 hd2 => f92_ok n k d (by have := Tm.size_kid hk; omega) (by have := Tm.size_kid hk; omega) (Tm.right_kid hr hk) (by omega) (by have := Tm.size_kid hk; omega)⟩) (by omega)
    rw [len_nil] at h1
    have h2 := Tm.free_range t hr
    simp only [f92, o92_0, h1, decide_eq_true_eq, ifB_eq]
    rw [Tm.free_eq] at h2 ⊢
    rw [BIG_eq] at hd
    split
    · rename_i hk
      rw [if_pos hk] at h2
      rw [ckI_eq (by omega), ckI_eq (by omega)]
    · rename_i hk
      rw [if_neg hk] at h2
      congr 1
      simp only [List.length_nil]
      omega
theorem f61_ok (n : Nat) (t : Tm) (h : t.size < n) (hb : t.size ≤ BIG) : f61 n t = some (if t.right = true then t.free else 0) := by
  simp only [f61, o61_0, ifB_eq]
  rw [f91_ok n t h hb, Option.bind_some]
  cases hr : t.right with
  | false => rfl
  | true =>
    rw [f92_ok n t 0 h hb hr (by omega) (by omega)]
    have := Tm.free_range t hr
    simp only [Bool.not_true, Bool.false_eq_true, if_false, Option.bind_some, if_true]
    congr 1
    omega
end Go.Proofs.YtcaahmielncmpaaGreat
