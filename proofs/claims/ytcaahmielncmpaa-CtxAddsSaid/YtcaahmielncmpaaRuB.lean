/-
  Plain facts on what the functions compute.
-/
import Derived.Test.YtcaahmielncmpaaRuA
set_option linter.unusedSimpArgs false
set_option linter.unusedVariables false
namespace Go.Proofs.Ytcaahmielncmpaa
open Go

theorem len_of_eq {α : Type} {c pre : List α} {x : α} {rest : List α} (h : c = pre ++ x :: rest) : pre.length < c.length := by rw [h]; simp
theorem l101_ok (n : Nat) (c : List Ent) (hl : c.length ≤ BIG) (hc : ∀ e ∈ c, e.a.size < n ∧ e.a.size ≤ BIG) : ∀ (rest pre : List Ent) (m : Nat), c = pre ++ rest → rest.length < m →
    l101_1 n m pre c (c.length : Int) (pre.length : Int) = some c := by
  intro rest
  induction rest with
  | nil =>
    intro pre m hk hm
    obtain ⟨m, rfl⟩ := fuel hm
    simp only [l101_1, o101_1, decide_eq_true_eq, ifB_eq]
    rw [if_neg (ge_at hk), hk]; simp
  | cons x rest ih =>
    intro pre m hk hm
    obtain ⟨m, rfl⟩ := fuel hm
    simp only [List.length_cons] at hm
    have hp : pre.length ≤ BIG := by have := len_of_eq hk; omega
    obtain ⟨hx1, hx2⟩ := hc x (by rw [hk]; simp)
    simp only [l101_1, o101_1, decide_eq_true_eq, atI_at hk, ifB_eq]
    rw [if_pos (lt_at hk), f102_ok n x.a hx1 hx2, Option.bind_some, ckB_eq (by simpa using room64 hp), ckI_eq (idx_ok hp), ent_eta, Ent.eta]
    have := ih (pre ++ [x]) m (next_at hk) (by omega)
    rw [len_snoc] at this
    exact this
theorem f101_ok' (n : Nat) (c : List Ent) (k : Int) (hk0 : 0 ≤ k) (hk1 : k ≤ 1000) (hn : csize c < n) (hb : csize c ≤ BIG) : f101 n c k = some c := by
  have hl := csize_len c
  simp only [f101, o101_0, ifB_eq]
  have hb2 := hb
  rw [BIG_eq] at hb2
  rw [ckI_eq (by omega), ckB_eq (by simp only [Bool.and_eq_true, decide_eq_true_eq]; omega)]
  have := l101_ok n c (by omega) (fun e he => by have := csize_mem he; omega) c [] n rfl (by omega)
  rw [len_nil] at this
  exact this
theorem f51_ok' (n : Nat) (c : List Ent) (t : Tm) (i : Int) (hn : csize c < n) (hb : csize c ≤ BIG) (ht : t.size < n) (htb : t.size ≤ BIG) : f51 n c t i = some (c ++ [Ent.mk t i]) := by
  have hl := csize_len c
  simp only [f51, o51_0, ifB_eq]
  rw [f101_ok' n c 1 (by omega) (by omega) hn hb, Option.bind_some, f102_ok n t ht htb, Option.bind_some, ckB_eq (by simpa using room64 (show c.length ≤ BIG by omega)), ent_eta]
/-! ## Entries -/
/-! ## Premises -/
end Go.Proofs.Ytcaahmielncmpaa
