/-
  Plain facts on what the functions compute.
-/
import Derived.Test.YtcaahmielncmpaaGreatPlainA
import Derived.Test.YtcaahmielncmpaaGreatGenD
set_option linter.unusedSimpArgs false
set_option linter.unusedVariables false
namespace Go.Proofs.YtcaahmielncmpaaGreat
open Go
mutual
def Dv.size : Dv → Nat
  | .mk _ _ ks => 1 + Dv.sizes ks
def Dv.sizes : List Dv → Nat
  | [] => 0
  | k :: ks => k.size + Dv.sizes ks
end
theorem Dv.size_eq (t : Dv) : t.size = 1 + Dv.sizes t.kids := by cases t; rfl
theorem Dv.size_pos (t : Dv) : 1 ≤ t.size := by rw [Dv.size_eq]; omega
theorem Dv.length_le (ks : List Dv) : ks.length ≤ Dv.sizes ks := by
  induction ks with
  | nil => simp [Dv.sizes]
  | cons k ks ih => have := k.size_pos; simp [Dv.sizes]; omega
theorem Dv.size_mem {k : Dv} {ks : List Dv} (h : k ∈ ks) : k.size ≤ Dv.sizes ks := by
  induction ks with
  | nil => cases h
  | cons x ks ih =>
    simp only [Dv.sizes]
    rcases List.mem_cons.1 h with rfl | h
    · omega
    · have := ih h; omega
theorem Dv.size_kid {t k : Dv} (h : k ∈ t.kids) : k.size < t.size := by rw [Dv.size_eq t]; have := Dv.size_mem h; omega
theorem Dv.len_kids (t : Dv) : t.kids.length < t.size := by rw [Dv.size_eq t]; have := Dv.length_le t.kids; omega
theorem Dv.eta (t : Dv) : Dv.mk t.rule t.i t.kids = t := by cases t; rfl

mutual
def Dv.deep : Dv → Nat
  | .mk _ _ ks => Dv.deeps ks + 1
def Dv.deeps : List Dv → Nat
  | [] => 0
  | k :: ks => max k.deep (Dv.deeps ks)
end
theorem Dv.deep_eq (t : Dv) : t.deep = Dv.deeps t.kids + 1 := by cases t; rfl
mutual
theorem Dv.deep_size : ∀ t : Dv, t.deep ≤ t.size
  | .mk _ _ ks => by have := Dv.deeps_size ks; simp only [Dv.deep, Dv.size]; omega
theorem Dv.deeps_size : ∀ ks : List Dv, Dv.deeps ks ≤ Dv.sizes ks
  | [] => by simp [Dv.deeps, Dv.sizes]
  | k :: ks => by
    have := Dv.deep_size k
    have := Dv.deeps_size ks
    simp only [Dv.deeps, Dv.sizes]
    omega
end
mutual
def Dv.weigh : Dv → Int → Int → Int
  | .mk _ _ ks, most, deep => if deep < 0 then most + 1 else Dv.weighL ks most deep 1
def Dv.weighL : List Dv → Int → Int → Int → Int
  | [], _, _, n => n
  | k :: ks, most, deep, n => if n ≤ most then Dv.weighL ks most deep (n + k.weigh (most - n) (deep - 1)) else n
end
mutual
theorem Dv.weigh_bound : ∀ (d : Dv) (most deep : Int), 0 ≤ most → 1 ≤ d.weigh most deep ∧ d.weigh most deep ≤ most + 1
  | .mk _ _ ks, most, deep, h => by
    simp only [Dv.weigh]
    split
    · omega
    · have := Dv.weighL_bound ks most deep 1 h (by omega) (by omega)
      omega
theorem Dv.weighL_bound : ∀ (ks : List Dv) (most deep n : Int), 0 ≤ most → 1 ≤ n → n ≤ most + 1 → n ≤ Dv.weighL ks most deep n ∧ Dv.weighL ks most deep n ≤ most + 1
  | [], most, deep, n, h, h1, h2 => by simp only [Dv.weighL]; omega
  | k :: ks, most, deep, n, h, h1, h2 => by
    simp only [Dv.weighL]
    split
    · have := Dv.weigh_bound k (most - n) (deep - 1) (by omega)
      have := Dv.weighL_bound ks most deep (n + k.weigh (most - n) (deep - 1)) h (by omega) (by omega)
      omega
    · omega
end
mutual
theorem Dv.weigh_size : ∀ (d : Dv) (most deep : Int), 0 ≤ most → -1 ≤ deep → d.weigh most deep ≤ most → (d.size : Int) = d.weigh most deep ∧ (d.deep : Int) ≤ deep + 1
  | .mk _ _ ks, most, deep, h, hd, hw => by
    simp only [Dv.weigh] at hw ⊢
    split at hw
    · omega
    · rename_i hn
      rw [if_neg hn]
      have := Dv.weighL_size ks most deep 1 h (by omega) (by omega) hw
      simp only [Dv.size, Dv.deep]
      omega
theorem Dv.weighL_size : ∀ (ks : List Dv) (most deep n : Int), 0 ≤ most → 0 ≤ deep → 1 ≤ n → Dv.weighL ks most deep n ≤ most → Dv.weighL ks most deep n = n + (Dv.sizes ks : Int) ∧ (Dv.deeps ks : Int) ≤ deep
  | [], most, deep, n, h, hd, h1, hw => by simp only [Dv.weighL, Dv.sizes, Dv.deeps]; omega
  | k :: ks, most, deep, n, h, hd, h1, hw => by
    simp only [Dv.weighL] at hw ⊢
    split at hw
    · rename_i hn
      rw [if_pos hn]
      have b := Dv.weigh_bound k (most - n) (deep - 1) (by omega)
      have e := Dv.weighL_size ks most deep (n + k.weigh (most - n) (deep - 1)) h hd (by omega) hw
      have c := Dv.weigh_size k (most - n) (deep - 1) (by omega) (by omega) (by omega)
      simp only [Dv.sizes, Dv.deeps]
      omega
    · omega
end
theorem lw120_ok (s : Dv → Int → Int → Option Int) (n : Nat) (t : Dv) (most deep : Int) (h0 : 0 ≤ most) (h1 : most ≤ 1000000) (h2 : 0 ≤ deep) (h3 : deep ≤ 1000000)
    (hs : ∀ (k : Dv) (x : Int), 0 ≤ x → x < most → s k x (deep - 1) = some (k.weigh x (deep - 1))) : ∀ (rest pre : List Dv) (acc : Int) (m : Nat), t.kids = pre ++ rest → 1 ≤ acc → acc ≤ most + 1 → (pre.length : Int) < acc → most + 1 - acc < m →
    l51_1 s n m most deep t acc (pre.length : Int) = some (Dv.weighL rest most deep acc) := by
  intro rest
  induction rest with
  | nil =>
    intro pre acc m hk _ _ _ hm
    obtain ⟨m, rfl⟩ : ∃ k, m = k + 1 := ⟨m - 1, by omega⟩
    simp only [l51_1, o51_1, decide_eq_true_eq, ifB_eq]
    rw [if_neg (ge_at hk)]
    simp [Dv.weighL]
  | cons x rest ih =>
    intro pre acc m hk ha hb hp hm
    obtain ⟨m, rfl⟩ : ∃ k, m = k + 1 := ⟨m - 1, by omega⟩
    simp only [l51_1, o51_1, decide_eq_true_eq, Dv.weighL, ifB_eq]
    rw [if_pos (lt_at hk)]
    by_cases hle : acc ≤ most
    · have b := Dv.weigh_bound x (most - acc) (deep - 1) (by omega)
      rw [if_pos hle, if_pos hle]
      simp only [c51_2, o51_2, ifB_eq]
      rw [atI_at hk, ckI_eq (by omega), ckI_eq (by omega), hs x (most - acc) (by omega) (by omega), Option.bind_some, ckI_eq (by omega), ckI_eq (by omega)]
      have := ih (pre ++ [x]) (acc + x.weigh (most - acc) (deep - 1)) m (next_at hk) (by omega) (by omega) (by simp; omega) (by omega)
      rw [len_snoc] at this
      rw [this]
    · rw [if_neg hle, if_neg hle]
theorem f51_ok : ∀ (n : Nat) (t : Dv) (most deep : Int), 0 ≤ most → most ≤ 1000000 → -1 ≤ deep → deep ≤ 1000 → most + 2 + deep + 2 < n → f51 n t most deep = some (t.weigh most deep)
  | 0, t, most, deep, _, _, _, _, h => by omega
  | n + 1, t, most, deep, h0, h1, h2, h3, h => by
    have hw : t.weigh most deep = if deep < 0 then most + 1 else Dv.weighL t.kids most deep 1 := by cases t; rfl
    simp only [f51, o51_0, hw, ifB_eq]
    by_cases hd : deep < 0
    · rw [if_pos (by simpa using hd), if_pos hd, ckI_eq (by omega)]
    · rw [if_neg (by simpa using hd), if_neg hd]
      have := lw120_ok (f51 n) n t most deep h0 h1 (by omega) (by omega) (fun k x hx0 hx1 => f51_ok n k x (deep - 1) hx0 (by omega) (by omega) (by omega) (by omega)) t.kids [] 1 n rfl (by omega) (by omega) (by simp) (by omega)
      simpa using this
theorem didx_ok {n : Nat} (h : n ≤ BIG) : -9223372036854775808 ≤ (n : Int) + 1 ∧ (n : Int) + 1 ≤ 9223372036854775807 := by rw [BIG_eq] at h; omega
section
variable {R : Type}
end
def Dv.at (d : Dv) : List Int → Option Dv
  | [] => some d
  | i :: p => if i < 0 then none else match d.kids[i.toNat]? with
    | some x => Dv.at x p
    | none => none
def nodeD (r i : Int) (len : Nat) : Bool := decide (f30 r = some (len : Int)) && (decide (0 ≤ i) && (decide (i ≤ 1000000) && (decide (i = 0) || (decide (r = 1) || decide (r = 2)))))
mutual
def Dv.ok : Dv → Bool
  | .mk r i ks => nodeD r i ks.length && Dv.oks ks
def Dv.oks : List Dv → Bool
  | [] => true
  | x :: xs => x.ok && Dv.oks xs
end
theorem Dv.ok_eq (d : Dv) : d.ok = (nodeD d.rule d.i d.kids.length && Dv.oks d.kids) := by cases d; rfl
theorem l37_ok (s : Dv → Option Bool) (n : Nat) (ks : List Dv) (hb : ks.length ≤ BIG) : ∀ (rest pre : List Dv) (m : Nat), ks = pre ++ rest → rest.length < m → (∀ k ∈ rest, s k = some k.ok) →
    l46_2 s n m ks (ks.length : Int) (pre.length : Int) = some (Dv.oks rest) := by
  intro rest
  induction rest with
  | nil =>
    intro pre m hk hm _
    obtain ⟨m, rfl⟩ := fuel hm
    simp only [l46_2, o46_2, decide_eq_true_eq, ifB_eq]
    rw [if_neg (ge_at hk)]
    rfl
  | cons x rest ih =>
    intro pre m hk hm hs
    obtain ⟨m, rfl⟩ := fuel hm
    simp only [List.length_cons] at hm
    have hp : pre.length ≤ BIG := by rw [hk] at hb; simp at hb; omega
    have h1 := ih (pre ++ [x]) m (next_at hk) (by omega) (fun k hk => hs k (by simp [hk]))
    rw [len_snoc] at h1
    simp only [l46_2, o46_2, decide_eq_true_eq, ifB_eq]
    rw [if_pos (lt_at hk), atI_at hk, hs x (by simp), Option.bind_some]
    simp only [Dv.oks]
    cases x.ok with
    | false => rfl
    | true => rw [if_neg (by simp), ckI_eq (didx_ok hp), h1, Bool.true_and]
theorem ite_some {c : Prop} [Decidable c] {x y : Option Int} (hx : x.isSome = true) (hy : y.isSome = true) : (if c then x else y).isSome = true := by
  split <;> assumption
theorem c30_3_some (k : Int) (b : Bool) : (c30_3 k b).isSome = true := by
  unfold c30_3 o30_3
  simp only [ifB_eq]
  repeat' first | exact Option.isSome_some | apply ite_some
theorem c30_2_some (k : Int) (b : Bool) : (c30_2 k b).isSome = true := by
  unfold c30_2 o30_2
  simp only [ifB_eq]
  repeat' first | exact Option.isSome_some | exact c30_3_some _ _ | apply ite_some
theorem c30_1_some (k : Int) (b : Bool) : (c30_1 k b).isSome = true := by
  unfold c30_1 o30_1
  simp only [ifB_eq]
  repeat' first | exact Option.isSome_some | exact c30_2_some _ _ | apply ite_some
theorem f30_some (k : Int) : ∃ x, f30 k = some x := by
  have : (f30 k).isSome = true := by
    unfold f30 o30_0
    simp only [ifB_eq]
    split <;> exact c30_1_some k _
  exact Option.isSome_iff_exists.1 this
theorem f46_ok : ∀ (n : Nat) (d : Dv), d.size < n → d.size ≤ BIG → f46 n d = some d.ok
  | 0, d, h, _ => by omega
  | n + 1, d, h, hb => by
    have hl := Dv.len_kids d
    have h1 := l37_ok (f46 n) n d.kids (by omega) d.kids [] n rfl (by omega) (fun k hk => f46_ok n k (by have := Dv.size_kid hk; omega) (by have := Dv.size_kid hk; omega))
    rw [len_nil] at h1
    obtain ⟨q, hq⟩ := f30_some d.rule
    simp only [f46, o46_0, c46_1, o46_1, h1, hq, Option.bind_some, ifB_eq]
    rw [Dv.ok_eq]
    unfold nodeD
    rw [hq]
    simp only [Option.some.injEq]
    by_cases e1 : q = (d.kids.length : Int)
    · by_cases e2 : d.i < 0
      · have : ¬ 0 ≤ d.i := by omega
        simp [e1, e2, this]
      · by_cases e3 : 1000000 < d.i
        · have : ¬ d.i ≤ 1000000 := by omega
          simp [e1, e2, e3, this]
        · have h1 : 0 ≤ d.i := by omega
          have h2 : d.i ≤ 1000000 := by omega
          by_cases e4 : d.i = 0
          · simp [e1, e4]
          · by_cases e5 : d.rule = 1
            · simp [e1, e2, e3, e4, e5, h1, h2]
            · by_cases e6 : d.rule = 2
              · simp [e1, e2, e3, e4, e5, e6, h1, h2]
              · simp [e1, e2, e3, e4, e5, e6, h1, h2]
    · simp [e1]
end Go.Proofs.YtcaahmielncmpaaGreat
