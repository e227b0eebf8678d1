/-
  Plain facts on what the functions compute.
-/
import Derived.Test.YtcaahmielncmpaaPlV
import Derived.Test.YtcaahmielncmpaaGenC
set_option linter.unusedSimpArgs false
set_option linter.unusedVariables false
namespace Go.Proofs.Ytcaahmielncmpaa
open Go

/-! ## Contexts -/
theorem Ent.eta (e : Ent) : Ent.mk e.a e.i = e := by cases e; rfl
theorem ent_eta (x : Tm) (i : Int) : Ent.mk (Tm.mk x.kind x.i x.j x.n x.kids) i = Ent.mk x i := by rw [Tm.eta]

def csize : List Ent → Nat
  | [] => 0
  | e :: r => e.a.size + csize r
theorem csize_mem {e : Ent} : ∀ {c : List Ent}, e ∈ c → e.a.size ≤ csize c
  | [], h => by cases h
  | x :: r, h => by
    simp only [csize]
    rcases List.mem_cons.1 h with rfl | h
    · omega
    · have := csize_mem h; omega
theorem csize_len : ∀ (c : List Ent), c.length ≤ csize c
  | [] => by simp
  | x :: r => by
    have := csize_len r
    have := Tm.size_pos x.a
    simp only [csize, List.length_cons]; omega
theorem csize_append : ∀ (a b : List Ent), csize (a ++ b) = csize a + csize b
  | [], b => by simp [csize]
  | x :: a, b => by simp only [List.cons_append, csize, csize_append a b]; omega

/-! ### right -/
def rightC : Nat → List Ent → Bool
  | _, [] => true
  | k, e :: r => lev e.i && (e.a.marked && (decide (e.a.free ≤ (k : Int)) && rightC (k + 1) r))
theorem marked_right {t : Tm} (h : t.marked = true) : t.right = true := by unfold Tm.right; rw [h]; rfl

theorem l41_ok (n : Nat) (c : List Ent) (hl : c.length ≤ BIG) : ∀ (rest pre : List Ent) (m : Nat), c = pre ++ rest → rest.length < m → (∀ e ∈ rest, e.a.size < n ∧ e.a.size ≤ BIG) →
    l41_1 n m c (c.length : Int) (pre.length : Int) = some (rightC pre.length rest) := by
  intro rest
  induction rest with
  | nil =>
    intro pre m hk hm _
    obtain ⟨m, rfl⟩ := fuel hm
    simp only [l41_1, o41_1, decide_eq_true_eq, ifB_eq]
    rw [if_neg (ge_at hk)]
    rfl
  | cons x rest ih =>
    intro pre m hk hm hs
    obtain ⟨m, rfl⟩ := fuel hm
    simp only [List.length_cons] at hm
    have hp : pre.length ≤ BIG := by rw [hk] at hl; simp at hl; omega
    obtain ⟨hx1, hx2⟩ := hs x (by simp)
    simp only [l41_1, o41_1, decide_eq_true_eq, rightC, lev, ifB_eq]
    rw [if_pos (lt_at hk), atI_at hk]
    by_cases h1 : x.i < 0
    · rw [if_pos h1, decide_eq_false (by omega)]; rfl
    rw [if_neg h1]
    by_cases h2 : 1000 < x.i
    · rw [if_pos h2, decide_eq_false (p := x.i ≤ 1000) (by omega)]; simp
    rw [if_neg h2, f79_ok n x.a hx1 hx2, Option.bind_some, decide_eq_true (p := 0 ≤ x.i) (by omega), decide_eq_true (p := x.i ≤ 1000) (by omega)]
    cases hm' : x.a.marked with
    | false => rfl
    | true =>
      rw [if_neg (by simp), f99_ok n x.a hx1 hx2, if_pos (marked_right hm'), Option.bind_some]
      by_cases h3 : (pre.length : Int) < x.a.free
      · rw [if_pos h3, decide_eq_false (p := x.a.free ≤ (pre.length : Int)) (by omega)]; rfl
      · rw [if_neg h3, ckI_eq (idx_ok hp), decide_eq_true (p := x.a.free ≤ (pre.length : Int)) (by omega)]
        have := ih (pre ++ [x]) m (next_at hk) (by omega) (fun e he => hs e (by simp [he]))
        rw [len_snoc] at this
        rw [this]
        simp
theorem f41_ok (n : Nat) (c : List Ent) (hn : csize c < n) (hb : csize c ≤ BIG) : f41 n c = some (rightC 0 c) := by
  have hl := csize_len c
  have := l41_ok n c (by omega) c [] n rfl (by omega) (fun e he => by have := csize_mem he; omega)
  rw [len_nil] at this
  simp only [f41, o41_0, ifB_eq]
  exact this

theorem rightC_get : ∀ {c : List Ent} {k j : Nat} {e : Ent}, rightC k c = true → c[j]? = some e → lev e.i = true ∧ e.a.marked = true ∧ e.a.free ≤ ((k + j : Nat) : Int)
  | [], _, _, _, _, h => by simp at h
  | x :: r, k, 0, e, h, he => by
    simp only [rightC, Bool.and_eq_true, decide_eq_true_eq] at h
    simp at he; subst he
    exact ⟨h.1, h.2.1, by simpa using h.2.2.1⟩
  | x :: r, k, j + 1, e, h, he => by
    simp only [rightC, Bool.and_eq_true] at h
    have := rightC_get (c := r) (k := k + 1) (j := j) h.2.2.2 (by simpa using he)
    rwa [show k + 1 + j = k + (j + 1) by omega] at this

/-! ### at -/
theorem tzero_size : tzero.size = 1 := by simp [tzero, Tm.size, Tm.sizes]
def atC (c : List Ent) (k : Int) : Tm × Int × Bool :=
  if k < 0 ∨ (c.length : Int) ≤ k ∨ rightC 0 c = false then (tzero, 0, false)
  else match c[((c.length : Int) - 1 - k).toNat]? with
    | some e => (Tm.liftZ (k + 1) 0 e.a, e.i, true)
    | none => (tzero, 0, false)
theorem f39_ok (n : Nat) (c : List Ent) (k : Int) (hn : csize c < n) (hb : csize c ≤ BIG) : f39 n c k = some (atC c k) := by
  have hl := csize_len c
  have hBl : (c.length : Int) ≤ 1000000000000 := by rw [BIG_eq] at hb; omega
  simp only [f39, o39_0, c39_1, o39_1, decide_eq_true_eq, ifB_eq]
  unfold atC
  by_cases h1 : k < 0
  · rw [if_pos h1, if_pos (.inl h1)]; rfl
  rw [if_neg h1]
  by_cases h2 : (c.length : Int) ≤ k
  · rw [if_pos h2, if_pos (.inr (.inl h2))]; rfl
  rw [if_neg h2, f41_ok n c hn hb, Option.bind_some]
  cases hr : rightC 0 c with
  | false => rw [if_pos (by simp), if_pos (.inr (.inr rfl))]; rfl
  | true =>
    have hlt : ((c.length : Int) - 1 - k).toNat < c.length := by omega
    have hget := List.getElem?_eq_getElem hlt
    have hsz := csize_mem (List.mem_of_getElem? hget)
    rw [if_neg (by simp), ckI_eq (by omega), ckI_eq (by omega), atI_eq (by omega) hget, ckI_eq (by omega), f33_ok n _ (k + 1) 0 (by omega) (by omega) (by omega), Option.bind_some, if_neg (by simp; omega), hget]
/-! ### same -/
/-! ### twins -/
theorem room64 {n : Nat} (h : n ≤ BIG) : (decide ((n + 1) * 64 ≤ 140737488355328) && decide (n + 1 ≤ 9223372036854775807)) = true := by
  rw [BIG_eq] at h
  simp only [Bool.and_eq_true, decide_eq_true_eq]; omega
/-! ### judgments -/
theorem Jd.eta (j : Jd) : Jd.mk j.eq j.u j.v j.a j.i = j := by cases j; rfl
end Go.Proofs.Ytcaahmielncmpaa
