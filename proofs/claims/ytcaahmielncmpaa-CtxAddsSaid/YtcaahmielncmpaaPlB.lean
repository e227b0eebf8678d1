/-
  Plain facts on what the functions compute.
-/
import Derived.Test.YtcaahmielncmpaaPlA
set_option linter.unusedSimpArgs false
set_option linter.unusedVariables false
namespace Go.Proofs.Ytcaahmielncmpaa
open Go

/-! ## Steps of loops over a list -/
section
variable {α β : Type}
theorem atI_mid (pre rest : List α) (x : α) (k : α → Option β) : atI (pre ++ x :: rest) (pre.length : Int) k = k x := by
  unfold atI
  rw [if_pos (by omega)]
  simp
theorem ckB_eq {b : Bool} {x : Option β} (h : b = true) : ckB b x = x := by
  unfold ckB
  rw [if_pos h]
theorem atI_eq {l : List α} {n : Int} {x : α} {k : α → Option β} (h0 : 0 ≤ n) (h : l[n.toNat]? = some x) : atI l n k = k x := by
  unfold atI
  rw [if_pos h0, h]
theorem lt_mid' (pre rest : List α) (x : α) : (pre.length : Int) < ((pre ++ x :: rest).length : Int) := by simp; omega
theorem lt_end' (pre : List α) : ¬ (pre.length : Int) < ((pre ++ []).length : Int) := by simp
theorem atI_at {l pre rest : List α} {x : α} (h : l = pre ++ x :: rest) (k : α → Option β) : atI l (pre.length : Int) k = k x := by subst h; exact atI_mid pre rest x k
theorem lt_at {l pre rest : List α} {x : α} (h : l = pre ++ x :: rest) : (pre.length : Int) < (l.length : Int) := by subst h; exact lt_mid' pre rest x
theorem ge_at {l pre : List α} (h : l = pre ++ []) : ¬ (pre.length : Int) < (l.length : Int) := by subst h; exact lt_end' pre
theorem next_at {l pre rest : List α} {x : α} (h : l = pre ++ x :: rest) : l = (pre ++ [x]) ++ rest := by rw [h]; simp
theorem len_nil : ((([] : List α).length : Nat) : Int) = 0 := rfl
theorem len_snoc (pre : List α) (x : α) : ((pre ++ [x]).length : Int) = (pre.length : Int) + 1 := by simp
end

/-! ## Size -/
theorem Tm.size_eq (t : Tm) : t.size = 1 + Tm.sizes t.kids := by cases t; rfl
theorem Tm.size_pos (t : Tm) : 1 ≤ t.size := by rw [Tm.size_eq]; omega
theorem Tm.length_le (ks : List Tm) : ks.length ≤ Tm.sizes ks := by
  induction ks with
  | nil => simp [Tm.sizes]
  | cons k ks ih => have := k.size_pos; simp [Tm.sizes]; omega
theorem Tm.size_mem {k : Tm} {ks : List Tm} (h : k ∈ ks) : k.size ≤ Tm.sizes ks := by
  induction ks with
  | nil => cases h
  | cons x ks ih =>
    simp only [Tm.sizes]
    rcases List.mem_cons.1 h with rfl | h
    · omega
    · have := ih h; omega
theorem Tm.size_kid {t k : Tm} (h : k ∈ t.kids) : k.size < t.size := by rw [Tm.size_eq t]; have := Tm.size_mem h; omega
theorem Tm.len_kids (t : Tm) : t.kids.length < t.size := by rw [Tm.size_eq t]; have := Tm.length_le t.kids; omega
theorem Tm.eta (t : Tm) : Tm.mk t.kind t.i t.j t.n t.kids = t := by cases t; rfl

theorem BIG_eq : BIG = 1000000000000 := rfl

/-- Fuel that is left. -/
theorem fuel {m k : Nat} (h : k < m) : ∃ m', m = m' + 1 := ⟨m - 1, by omega⟩

mutual
def Tm.deep : Tm → Nat
  | .mk _ _ _ _ ks => Tm.deeps ks + 1
def Tm.deeps : List Tm → Nat
  | [] => 0
  | k :: ks => max k.deep (Tm.deeps ks)
end
theorem Tm.deep_eq (t : Tm) : t.deep = Tm.deeps t.kids + 1 := by cases t; rfl
mutual
theorem Tm.deep_size : ∀ t : Tm, t.deep ≤ t.size
  | .mk _ _ _ _ ks => by have := Tm.deeps_size ks; simp only [Tm.deep, Tm.size]; omega
theorem Tm.deeps_size : ∀ ks : List Tm, Tm.deeps ks ≤ Tm.sizes ks
  | [] => by simp [Tm.deeps, Tm.sizes]
  | k :: ks => by
    have := Tm.deep_size k
    have := Tm.deeps_size ks
    simp only [Tm.deeps, Tm.sizes]
    omega
end
mutual
def Tm.weigh : Tm → Int → Int → Int
  | .mk _ _ _ _ ks, most, deep => if deep < 0 then most + 1 else Tm.weighL ks most deep 1
def Tm.weighL : List Tm → Int → Int → Int → Int
  | [], _, _, n => n
  | k :: ks, most, deep, n => if n ≤ most then Tm.weighL ks most deep (n + k.weigh (most - n) (deep - 1)) else n
end
mutual
theorem Tm.weigh_bound : ∀ (d : Tm) (most deep : Int), 0 ≤ most → 1 ≤ d.weigh most deep ∧ d.weigh most deep ≤ most + 1
  | .mk _ _ _ _ ks, most, deep, h => by
    simp only [Tm.weigh]
    split
    · omega
    · have := Tm.weighL_bound ks most deep 1 h (by omega) (by omega)
      omega
theorem Tm.weighL_bound : ∀ (ks : List Tm) (most deep n : Int), 0 ≤ most → 1 ≤ n → n ≤ most + 1 → n ≤ Tm.weighL ks most deep n ∧ Tm.weighL ks most deep n ≤ most + 1
  | [], most, deep, n, h, h1, h2 => by simp only [Tm.weighL]; omega
  | k :: ks, most, deep, n, h, h1, h2 => by
    simp only [Tm.weighL]
    split
    · have := Tm.weigh_bound k (most - n) (deep - 1) (by omega)
      have := Tm.weighL_bound ks most deep (n + k.weigh (most - n) (deep - 1)) h (by omega) (by omega)
      omega
    · omega
end
mutual
theorem Tm.weigh_size : ∀ (d : Tm) (most deep : Int), 0 ≤ most → -1 ≤ deep → d.weigh most deep ≤ most → (d.size : Int) = d.weigh most deep ∧ (d.deep : Int) ≤ deep + 1
  | .mk _ _ _ _ ks, most, deep, h, hd, hw => by
    simp only [Tm.weigh] at hw ⊢
    split at hw
    · omega
    · rename_i hn
      rw [if_neg hn]
      have := Tm.weighL_size ks most deep 1 h (by omega) (by omega) hw
      simp only [Tm.size, Tm.deep]
      omega
theorem Tm.weighL_size : ∀ (ks : List Tm) (most deep n : Int), 0 ≤ most → 0 ≤ deep → 1 ≤ n → Tm.weighL ks most deep n ≤ most → Tm.weighL ks most deep n = n + (Tm.sizes ks : Int) ∧ (Tm.deeps ks : Int) ≤ deep
  | [], most, deep, n, h, hd, h1, hw => by simp only [Tm.weighL, Tm.sizes, Tm.deeps]; omega
  | k :: ks, most, deep, n, h, hd, h1, hw => by
    simp only [Tm.weighL] at hw ⊢
    split at hw
    · rename_i hn
      rw [if_pos hn]
      have b := Tm.weigh_bound k (most - n) (deep - 1) (by omega)
      have e := Tm.weighL_size ks most deep (n + k.weigh (most - n) (deep - 1)) h hd (by omega) hw
      have c := Tm.weigh_size k (most - n) (deep - 1) (by omega) (by omega) (by omega)
      simp only [Tm.sizes, Tm.deeps]
      omega
    · omega
end
theorem l114_ok (s : Tm → Int → Int → Option Int) (n : Nat) (t : Tm) (most deep : Int) (h0 : 0 ≤ most) (h1 : most ≤ 1000000) (h2 : 0 ≤ deep) (h3 : deep ≤ 1000000)
    (hs : ∀ (k : Tm) (x : Int), 0 ≤ x → x < most → s k x (deep - 1) = some (k.weigh x (deep - 1))) : ∀ (rest pre : List Tm) (acc : Int) (m : Nat), t.kids = pre ++ rest → 1 ≤ acc → acc ≤ most + 1 → (pre.length : Int) < acc → most + 1 - acc < m →
    l76_1 s n m most deep t acc (pre.length : Int) = some (Tm.weighL rest most deep acc) := by
  intro rest
  induction rest with
  | nil =>
    intro pre acc m hk _ _ _ hm
    obtain ⟨m, rfl⟩ : ∃ k, m = k + 1 := ⟨m - 1, by omega⟩
    simp only [l76_1, o76_1, decide_eq_true_eq, ifB_eq]
    rw [if_neg (ge_at hk)]
    simp [Tm.weighL]
  | cons x rest ih =>
    intro pre acc m hk ha hb hp hm
    obtain ⟨m, rfl⟩ : ∃ k, m = k + 1 := ⟨m - 1, by omega⟩
    simp only [l76_1, o76_1, decide_eq_true_eq, Tm.weighL, ifB_eq]
    rw [if_pos (lt_at hk)]
    by_cases hle : acc ≤ most
    · have b := Tm.weigh_bound x (most - acc) (deep - 1) (by omega)
      rw [if_pos hle, if_pos hle]
      simp only [c76_2, o76_2, ifB_eq]
      rw [atI_at hk, ckI_eq (by omega), ckI_eq (by omega), hs x (most - acc) (by omega) (by omega), Option.bind_some, ckI_eq (by omega), ckI_eq (by omega)]
      have := ih (pre ++ [x]) (acc + x.weigh (most - acc) (deep - 1)) m (next_at hk) (by omega) (by omega) (by simp; omega) (by omega)
      rw [len_snoc] at this
      rw [this]
    · rw [if_neg hle, if_neg hle]
theorem f76_ok : ∀ (n : Nat) (t : Tm) (most deep : Int), 0 ≤ most → most ≤ 1000000 → -1 ≤ deep → deep ≤ 1000 → most + 2 + deep + 2 < n → f76 n t most deep = some (t.weigh most deep)
  | 0, t, most, deep, _, _, _, _, h => by omega
  | n + 1, t, most, deep, h0, h1, h2, h3, h => by
    have hw : t.weigh most deep = if deep < 0 then most + 1 else Tm.weighL t.kids most deep 1 := by cases t; rfl
    simp only [f76, o76_0, hw, ifB_eq]
    by_cases hd : deep < 0
    · rw [if_pos (by simpa using hd), if_pos hd, ckI_eq (by omega)]
    · rw [if_neg (by simpa using hd), if_neg hd]
      have := l114_ok (f76 n) n t most deep h0 h1 (by omega) (by omega) (fun k x hx0 hx1 => f76_ok n k x (deep - 1) hx0 (by omega) (by omega) (by omega) (by omega)) t.kids [] 1 n rfl (by omega) (by omega) (by simp) (by omega)
      simpa using this
theorem f19_ok (n : Nat) (t : Tm) (most : Int) (h0 : 0 ≤ most) (h1 : most ≤ 1000000) (h : most + 1000 < n) : f19 n t most = some (decide (most < t.weigh most 200)) := by
  simp only [f19, o19_0, ifB_eq]
  rw [f76_ok n t most 200 h0 h1 (by omega) (by omega) (by omega)]
  rfl
theorem Tm.great_size {d : Tm} {most : Int} (h0 : 0 ≤ most) (h : ¬ most < d.weigh most 200) : (d.size : Int) ≤ most ∧ d.deep ≤ 201 := by
  have := Tm.weigh_size d most 200 h0 (by omega) (by omega)
  omega
end Go.Proofs.Ytcaahmielncmpaa
