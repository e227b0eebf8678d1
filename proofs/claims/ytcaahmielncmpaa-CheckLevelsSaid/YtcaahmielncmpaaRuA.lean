/-
  Plain facts on what the functions compute.
-/
import Derived.Test.YtcaahmielncmpaaCtC
import Derived.Test.YtcaahmielncmpaaCtS
import Derived.Test.YtcaahmielncmpaaGenR
set_option linter.unusedSimpArgs false
set_option linter.unusedVariables false
namespace Go.Proofs.Ytcaahmielncmpaa
open Go

/-! ## The rules: tables -/
def rkids (k : Int) : Int :=
  if k = 1 ∨ k = 2 then 0 else if k = 8 ∨ k = 9 ∨ k = 21 ∨ k = 22 ∨ k = 17 ∨ k = 11 ∨ k = 13 ∨ k = 14 then 1
  else if k = 3 ∨ k = 6 ∨ k = 4 ∨ k = 5 ∨ k = 10 ∨ k = 12 ∨ k = 15 ∨ k = 16 ∨ k = 24 ∨ k = 18 ∨ k = 23 ∨ k = 25 ∨ k = 26 then 2
  else if k = 7 ∨ k = 19 ∨ k = 20 ∨ k = 27 then 3 else if k = 28 then 4 else -1
theorem f106_eq (k : Int) : f106 k = some (rkids k) := by
  unfold f106 o106_0 c106_1 o106_1 c106_2 o106_2 c106_3 o106_3 rkids
  simp only [ifB_eq]
  grind (splits := 200)
theorem rkids_out {k : Int} (h : k < 1 ∨ 28 < k) : rkids k = -1 := by
  unfold rkids
  rw [if_neg (by omega), if_neg (by omega), if_neg (by omega), if_neg (by omega), if_neg (by omega)]
def rinner (k i : Int) : Bool :=
  if k = 3 ∨ k = 6 ∨ k = 4 ∨ k = 7 ∨ k = 19 ∨ k = 20 ∨ k = 18 ∨ k = 23 ∨ k = 25 ∨ k = 26 ∨ k = 28 then decide (i = 1) else if k = 27 then decide (i = 1 ∨ i = 2) else false
theorem f107_eq (k i : Int) : f107 k i = some (rinner k i) := by
  unfold f107 o107_0 c107_1 o107_1 rinner
  simp only [ifB_eq]
  grind (splits := 200)
/-! ## Zero, pure and free -/
def isZ (t : Tm) : Bool := decide (t.kind = 0) && (decide (t.i = 0) && (decide (t.j = 0) && (decide (t.n = 0) && decide ((t.kids.length : Int) = 0))))
theorem f138_eq (t : Tm) : f138 t = some (isZ t) := by
  unfold f138 o138_0 isZ
  simp only [ifB_eq]
  grind
theorem pure_right {t : Tm} (h : t.pure = true) : t.right = true := by
  unfold Tm.pure at h
  simp only [Bool.and_eq_true] at h
  exact marked_right h.1
def pf (k : Int) (t : Tm) : Bool := t.pure && decide (t.free ≤ k)
theorem f137_ok (n : Nat) (t : Tm) (k : Int) (h : t.size < n) (hb : t.size ≤ BIG) : f137 n t (k, ()) = some (pf k t) := by
  unfold f137 o137_0 pf
  simp only [ifB_eq]
  rw [f136_ok n t h hb, Option.bind_some]
  cases hp : t.pure with
  | false => rw [if_neg (by simp)]; rfl
  | true => rw [if_pos rfl, f99_ok n t h hb, if_pos (pure_right hp), Option.bind_some, Bool.true_and]
def rightJ (k : Int) (j : Jd) : Bool := lev j.i && (pf k j.u && (pf k j.a && (if j.eq then pf k j.v else isZ j.v)))
def jsz (j : Jd) : Nat := j.u.size + j.v.size + j.a.size
theorem f108_ok (n : Nat) (j : Jd) (k : Int) (h : jsz j < n) (hb : jsz j ≤ BIG) : f108 n j k = some (rightJ k j) := by
  unfold jsz at h hb
  unfold f108 o108_0 c108_1 o108_1 rightJ lev
  simp only [ifB_eq, decide_eq_true_eq]
  by_cases h1 : j.i < 0
  · rw [if_pos h1, decide_eq_false (p := 0 ≤ j.i) (by omega)]; rfl
  rw [if_neg h1, decide_eq_true (p := 0 ≤ j.i) (by omega)]
  by_cases h2 : 1000 < j.i
  · rw [if_pos h2, decide_eq_false (p := j.i ≤ 1000) (by omega)]; rfl
  rw [if_neg h2, decide_eq_true (p := j.i ≤ 1000) (by omega), f137_ok n j.u k (by omega) (by omega), Option.bind_some]
  cases pf k j.u with
  | false => rw [if_pos (by simp)]; rfl
  | true =>
    rw [if_neg (by simp), f137_ok n j.a k (by omega) (by omega), Option.bind_some]
    cases pf k j.a with
    | false => rw [if_pos (by simp)]; rfl
    | true =>
      rw [if_neg (by simp)]
      cases j.eq with
      | false => rw [if_neg (by simp), f138_eq, Option.bind_some]; rfl
      | true => rw [if_pos rfl, f137_ok n j.v k (by omega) (by omega), Option.bind_some]; rfl
/-! ## Pure contexts -/
def puresC : List Ent → Bool
  | [] => true
  | e :: r => e.a.pure && puresC r
theorem puresC_mem : ∀ {c : List Ent} {e : Ent}, puresC c = true → e ∈ c → e.a.pure = true
  | [], _, _, h => by cases h
  | x :: r, e, hr, h => by
    simp only [puresC, Bool.and_eq_true] at hr
    rcases List.mem_cons.1 h with rfl | h
    · exact hr.1
    · exact puresC_mem hr.2 h
def pureC (c : List Ent) : Bool := rightC 0 c && puresC c
theorem l105_ok (n : Nat) (c : List Ent) (hl : c.length ≤ BIG) : ∀ (rest pre : List Ent) (m : Nat), c = pre ++ rest → rest.length < m → (∀ e ∈ rest, e.a.size < n ∧ e.a.size ≤ BIG) →
    l105_1 n m c (c.length : Int) (pre.length : Int) = some (puresC rest) := by
  intro rest
  induction rest with
  | nil =>
    intro pre m hk hm _
    obtain ⟨m, rfl⟩ := fuel hm
    simp only [l105_1, o105_1, decide_eq_true_eq, ifB_eq]
    rw [if_neg (ge_at hk)]
    rfl
  | cons x rest ih =>
    intro pre m hk hm hs
    obtain ⟨m, rfl⟩ := fuel hm
    simp only [List.length_cons] at hm
    have hp : pre.length ≤ BIG := by rw [hk] at hl; simp at hl; omega
    obtain ⟨hx1, hx2⟩ := hs x (by simp)
    simp only [l105_1, o105_1, decide_eq_true_eq, puresC, ifB_eq, atI_at hk]
    rw [if_pos (lt_at hk), f136_ok n x.a hx1 hx2, Option.bind_some]
    cases x.a.pure with
    | false => rw [if_pos (by simp)]; rfl
    | true =>
      rw [if_neg (by simp), ckI_eq (idx_ok hp)]
      have := ih (pre ++ [x]) m (next_at hk) (by omega) (fun e he => hs e (by simp [he]))
      rw [len_snoc] at this
      rw [this]; rfl
theorem f105_ok (n : Nat) (c : List Ent) (hn : csize c < n) (hb : csize c ≤ BIG) : f105 n c = some (pureC c) := by
  have hl := csize_len c
  simp only [f105, o105_0, ifB_eq]
  rw [f41_ok n c hn hb, Option.bind_some]
  unfold pureC
  cases rightC 0 c with
  | false => rw [if_pos (by simp)]; rfl
  | true =>
    have := l105_ok n c (by omega) c [] n rfl (by omega) (fun e he => by have := csize_mem he; omega)
    rw [len_nil] at this
    rw [if_neg (by simp), this]; rfl
end Go.Proofs.Ytcaahmielncmpaa
