/-
  Plain facts on what the functions compute.
-/
import Derived.Test.YtcaahmielncmpaaGreatCtC
import Derived.Test.YtcaahmielncmpaaGreatCtS
import Derived.Test.YtcaahmielncmpaaGreatGenR
set_option linter.unusedSimpArgs false
set_option linter.unusedVariables false
namespace Go.Proofs.YtcaahmielncmpaaGreat
open Go

/-! ## The rules: tables -/
def rkids (k : Int) : Int :=
  if k = 1 ∨ k = 2 then 0 else if k = 8 ∨ k = 9 ∨ k = 21 ∨ k = 22 ∨ k = 17 ∨ k = 11 ∨ k = 13 ∨ k = 14 then 1
  else if k = 3 ∨ k = 6 ∨ k = 4 ∨ k = 5 ∨ k = 10 ∨ k = 12 ∨ k = 15 ∨ k = 16 ∨ k = 24 ∨ k = 18 ∨ k = 23 ∨ k = 25 ∨ k = 26 then 2
  else if k = 7 ∨ k = 19 ∨ k = 20 ∨ k = 27 then 3 else if k = 28 then 4 else -1
theorem f30_eq (k : Int) : f30 k = some (rkids k) := by
  unfold f30 o30_0 c30_1 o30_1 c30_2 o30_2 c30_3 o30_3 rkids
  simp only [ifB_eq]
  grind (splits := 200)
theorem rkids_out {k : Int} (h : k < 1 ∨ 28 < k) : rkids k = -1 := by
  unfold rkids
  rw [if_neg (by omega), if_neg (by omega), if_neg (by omega), if_neg (by omega), if_neg (by omega)]
theorem rkids_tab (s : Int) (h1 : 1 ≤ s) (h2 : s ≤ 28) : ([0, 0, 2, 2, 2, 2, 3, 1, 1, 2, 1, 2, 1, 1, 2, 2, 1, 2, 3, 3, 1, 1, 2, 2, 2, 2, 3, 4] : List Int)[(s - 1).toNat]? = some (rkids s) := by
  obtain ⟨n, hn, rfl⟩ : ∃ n : Nat, n < 28 ∧ s = n + 1 := ⟨(s - 1).toNat, by omega, by omega⟩
  have e : ((n : Int) + 1 - 1).toNat = n := by omega
  rw [e]
  have h3 : ∀ n : Nat, n < 28 → ([0, 0, 2, 2, 2, 2, 3, 1, 1, 2, 1, 2, 1, 1, 2, 2, 1, 2, 3, 3, 1, 1, 2, 2, 2, 2, 3, 4] : List Int)[n]? = some (rkids (n + 1)) := by decide
  exact h3 n hn
theorem f37_eq (k : Int) : f37 k = some (rkids k) := by
  unfold f37 o37_0
  simp only [ifB_eq, decide_eq_true_eq, List.length_cons, List.length_nil, show (((0 + 1 + 1 + 1 + 1 + 1 + 1 + 1 + 1 + 1 + 1 + 1 + 1 + 1 + 1 + 1 + 1 + 1 + 1 + 1 + 1 + 1 + 1 + 1 + 1 + 1 + 1 + 1 + 1 : Nat)) : Int) = 28 from rfl]
  by_cases h1 : k < 1
  · rw [if_pos h1, rkids_out (.inl h1)]
  rw [if_neg h1]
  by_cases h2 : 28 < k
  · rw [if_pos h2, rkids_out (.inr h2)]
  rw [if_neg h2, ckI_eq (by omega), ckB_eq (by simp; omega)]
  unfold atN
  rw [rkids_tab k (by omega) (by omega)]
def rinner (k i : Int) : Bool :=
  if k = 3 ∨ k = 6 ∨ k = 4 ∨ k = 7 ∨ k = 19 ∨ k = 20 ∨ k = 18 ∨ k = 23 ∨ k = 25 ∨ k = 26 ∨ k = 28 then decide (i = 1) else if k = 27 then decide (i = 1 ∨ i = 2) else false
theorem f31_eq (k i : Int) : f31 k i = some (rinner k i) := by
  unfold f31 o31_0 c31_1 o31_1 rinner
  simp only [ifB_eq]
  grind (splits := 200)
theorem f71_eq (k i : Int) : f71 k i = some (rinner k i) := by
  unfold f71 o71_0 c71_1 o71_1 rinner
  simp only [ifB_eq]
  grind (splits := 200)

/-! ## Zero, pure and free -/
def isZ (t : Tm) : Bool := decide (t.kind = 0) && (decide (t.i = 0) && (decide (t.j = 0) && (decide (t.n = 0) && decide ((t.kids.length : Int) = 0))))
theorem f73_eq (t : Tm) : f73 t = some (isZ t) := by
  unfold f73 o73_0 isZ
  simp only [ifB_eq]
  grind
theorem f62_eq (t : Tm) : f62 t = some (isZ t) := by
  unfold f62 o62_0 isZ
  simp only [ifB_eq]
  grind
theorem pure_right {t : Tm} (h : t.pure = true) : t.right = true := by
  unfold Tm.pure at h
  simp only [Bool.and_eq_true] at h
  exact marked_right h.1
def pf (k : Int) (t : Tm) : Bool := t.pure && decide (t.free ≤ k)
theorem f60_ok (n : Nat) (t : Tm) (k : Int) (h : t.size < n) (hb : t.size ≤ BIG) : f60 n t (k, ()) = some (pf k t) := by
  unfold f60 o60_0 pf
  simp only [ifB_eq]
  rw [f58_ok n t h hb, Option.bind_some]
  cases hp : t.pure with
  | false => rw [if_neg (by simp)]; rfl
  | true => rw [if_pos rfl, f61_ok n t h hb, if_pos (pure_right hp), Option.bind_some, Bool.true_and]
def rightJ (k : Int) (j : Jd) : Bool := lev j.i && (pf k j.u && (pf k j.a && (if j.eq then pf k j.v else isZ j.v)))
def jsz (j : Jd) : Nat := j.u.size + j.v.size + j.a.size
theorem f33_ok (n : Nat) (j : Jd) (k : Int) (h : jsz j < n) (hb : jsz j ≤ BIG) : f33 n j k = some (rightJ k j) := by
  unfold jsz at h hb
  unfold f33 o33_0 c33_1 o33_1 rightJ lev
  simp only [ifB_eq, decide_eq_true_eq]
  by_cases h1 : j.i < 0
  · rw [if_pos h1, decide_eq_false (p := 0 ≤ j.i) (by omega)]; rfl
  rw [if_neg h1, decide_eq_true (p := 0 ≤ j.i) (by omega)]
  by_cases h2 : 1000 < j.i
  · rw [if_pos h2, decide_eq_false (p := j.i ≤ 1000) (by omega)]; rfl
  rw [if_neg h2, decide_eq_true (p := j.i ≤ 1000) (by omega), f60_ok n j.u k (by omega) (by omega), Option.bind_some]
  cases pf k j.u with
  | false => rw [if_pos (by simp)]; rfl
  | true =>
    rw [if_neg (by simp), f60_ok n j.a k (by omega) (by omega), Option.bind_some]
    cases pf k j.a with
    | false => rw [if_pos (by simp)]; rfl
    | true =>
      rw [if_neg (by simp)]
      cases j.eq with
      | false => rw [if_neg (by simp), f62_eq, Option.bind_some]; rfl
      | true => rw [if_pos rfl, f60_ok n j.v k (by omega) (by omega), Option.bind_some]; rfl
theorem f39_ok (n : Nat) (j : Jd) (k : Int) (h : jsz j < n) (hb : jsz j ≤ BIG) : f39 n k j = some (rightJ k j) := by
  unfold jsz at h hb
  unfold f39 o39_0 c39_1 o39_1 rightJ pf
  simp only [ifB_eq, decide_eq_true_eq]
  rw [f41_eq, Option.bind_some]
  cases lev j.i with
  | false => rw [if_pos (by simp)]; rfl
  | true =>
  rw [if_neg (by simp), f69_ok n j.u (by omega) (by omega), Option.bind_some]
  cases hu : j.u.pure with
  | false => rw [if_pos (by simp)]; rfl
  | true =>
  rw [if_neg (by simp), f69_ok n j.a (by omega) (by omega), Option.bind_some]
  cases ha : j.a.pure with
  | false => rw [if_pos (by simp)]; simp
  | true =>
  rw [if_neg (by simp), f72_ok n j.u (by omega) (by omega), if_pos (pure_right hu), Option.bind_some]
  by_cases h1 : k < j.u.free
  · rw [if_pos h1, decide_eq_false (p := j.u.free ≤ k) (by omega)]; rfl
  rw [if_neg h1, decide_eq_true (p := j.u.free ≤ k) (by omega), f72_ok n j.a (by omega) (by omega), if_pos (pure_right ha), Option.bind_some]
  by_cases h2 : k < j.a.free
  · rw [if_pos h2, decide_eq_false (p := j.a.free ≤ k) (by omega)]; rfl
  rw [if_neg h2, decide_eq_true (p := j.a.free ≤ k) (by omega)]
  cases j.eq with
  | false => rw [if_pos (by simp), f73_eq, Option.bind_some]; rfl
  | true =>
    rw [if_neg (by simp), f69_ok n j.v (by omega) (by omega), Option.bind_some]
    cases hv : j.v.pure with
    | false => rw [if_neg (by simp)]; rfl
    | true => rw [if_pos rfl, f72_ok n j.v (by omega) (by omega), if_pos (pure_right hv), Option.bind_some]; simp

/-! ## Pure contexts -/
def puresC : List Ent → Bool
  | [] => true
  | e :: r => e.a.pure && puresC r
theorem puresC_mem : ∀ {c : List Ent} {e : Ent}, puresC c = true → e ∈ c → e.a.pure = true
  | [], _, _, h => by cases h
  | x :: r, e, hr, h => by
    simp only [puresC, Bool.and_eq_true] at hr
    rcases List.mem_cons.1 h with rfl | h
    · exact hr.1
    · exact puresC_mem hr.2 h
def pureC (c : List Ent) : Bool := rightC 0 c && puresC c
theorem l105_ok (n : Nat) (c : List Ent) (hl : c.length ≤ BIG) : ∀ (rest pre : List Ent) (m : Nat), c = pre ++ rest → rest.length < m → (∀ e ∈ rest, e.a.size < n ∧ e.a.size ≤ BIG) →
    l29_1 n m c (c.length : Int) (pre.length : Int) = some (puresC rest) := by
  intro rest
  induction rest with
  | nil =>
    intro pre m hk hm _
    obtain ⟨m, rfl⟩ := fuel hm
    simp only [l29_1, o29_1, decide_eq_true_eq, ifB_eq]
    rw [if_neg (ge_at hk)]
    rfl
  | cons x rest ih =>
    intro pre m hk hm hs
    obtain ⟨m, rfl⟩ := fuel hm
    simp only [List.length_cons] at hm
    have hp : pre.length ≤ BIG := by rw [hk] at hl; simp at hl; omega
    obtain ⟨hx1, hx2⟩ := hs x (by simp)
    simp only [l29_1, o29_1, decide_eq_true_eq, puresC, ifB_eq, atI_at hk]
    rw [if_pos (lt_at hk), f58_ok n x.a hx1 hx2, Option.bind_some]
    cases x.a.pure with
    | false => rw [if_pos (by simp)]; rfl
    | true =>
      rw [if_neg (by simp), ckI_eq (idx_ok hp)]
      have := ih (pre ++ [x]) m (next_at hk) (by omega) (fun e he => hs e (by simp [he]))
      rw [len_snoc] at this
      rw [this]; rfl
theorem f29_ok (n : Nat) (c : List Ent) (hn : csize c < n) (hb : csize c ≤ BIG) : f29 n c = some (pureC c) := by
  have hl := csize_len c
  simp only [f29, o29_0, ifB_eq]
  rw [f57_ok n c hn hb, Option.bind_some]
  unfold pureC
  cases rightC 0 c with
  | false => rw [if_pos (by simp)]; rfl
  | true =>
    have := l105_ok n c (by omega) c [] n rfl (by omega) (fun e he => by have := csize_mem he; omega)
    rw [len_nil] at this
    rw [if_neg (by simp), this]; rfl
theorem l110_ok (n : Nat) (c : List Ent) (hn : csize c < n) (hb : csize c ≤ BIG) : ∀ (rest pre : List Ent) (m : Nat), c = pre ++ rest → rest.length < m →
    l36_1 n m c (pre.length : Int) = some (rightC 0 c && puresC rest) := by
  have hl := csize_len c
  intro rest
  induction rest with
  | nil =>
    intro pre m hk hm
    obtain ⟨m, rfl⟩ := fuel hm
    simp only [l36_1, o36_1, decide_eq_true_eq, ifB_eq]
    rw [if_neg (ge_at hk), f70_ok n c hn hb]
    simp [puresC]
  | cons x rest ih =>
    intro pre m hk hm
    obtain ⟨m, rfl⟩ := fuel hm
    simp only [List.length_cons] at hm
    have hp : pre.length ≤ BIG := by have : c.length ≤ BIG := by omega
                                     rw [hk] at this; simp at this; omega
    have hx : x ∈ c := by rw [hk]; simp
    have hx1 := csize_mem hx
    simp only [l36_1, o36_1, decide_eq_true_eq, puresC, ifB_eq, atI_at hk]
    rw [if_pos (lt_at hk), f69_ok n x.a (by omega) (by omega), Option.bind_some]
    cases x.a.pure with
    | false => rw [if_pos (by simp)]; simp
    | true =>
      rw [if_neg (by simp), ckI_eq (idx_ok hp)]
      have := ih (pre ++ [x]) m (next_at hk) (by omega)
      rw [len_snoc] at this
      rw [this]; rfl
theorem f36_ok (n : Nat) (c : List Ent) (hn : csize c < n) (hb : csize c ≤ BIG) : f36 n c = some (pureC c) := by
  have hl := csize_len c
  simp only [f36, o36_0, ifB_eq]
  have := l110_ok n c hn hb c [] n rfl (by omega)
  rw [len_nil] at this
  exact this
end Go.Proofs.YtcaahmielncmpaaGreat
