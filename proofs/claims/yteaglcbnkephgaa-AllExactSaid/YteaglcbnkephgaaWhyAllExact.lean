/-
  The statement returns true.
-/
import Derived.Test.YteaglcbnkephgaaPlS
import Derived.Test.YteaglcbnkephgaaGenAllExact
set_option linter.unusedSimpArgs false
set_option linter.unusedVariables false
namespace Go.Proofs.Yteaglcbnkephgaa
open Go
theorem w98_true (m : Nat) : f98 (m + 20) = some true := by kernel_rfl
theorem l100_ok (n : Nat) (hn : 1000 < n) (vs : List Tm) (hvb : vs.length ≤ 120) : ∀ (rest pre : List Tm) (acc : Int) (m : Nat), vs = pre ++ rest → rest.length < m → 0 ≤ acc → acc ≤ 121 →
    ∃ b, l100_1 n m vs 120 acc (pre.length : Int) = some b ∧ (b = false → acc ≤ 120 ∧ ∀ x ∈ rest, x.size ≤ 120) := by
  intro rest
  induction rest with
  | nil =>
    intro pre acc m hk hm h0 h1
    obtain ⟨m, rfl⟩ := fuel hm
    simp only [l100_1, o100_1, decide_eq_true_eq]
    rw [if_neg (ge_at hk)]
    exact ⟨_, rfl, fun h => ⟨by simpa using h, by simp⟩⟩
  | cons x rest ih =>
    intro pre acc m hk hm h0 h1
    obtain ⟨m, rfl⟩ := fuel hm
    simp only [List.length_cons] at hm
    have hp : pre.length ≤ BIG := by rw [BIG_eq]; rw [hk] at hvb; simp at hvb; omega
    simp only [l100_1, o100_1, decide_eq_true_eq]
    rw [if_pos (lt_at hk)]
    by_cases h2 : acc ≤ 120
    · rw [if_pos h2]
      simp only [c100_2, o100_2]
      have hw := Tm.weigh_bound x (120 - acc) 200 (by omega)
      rw [atI_at hk, ckI_eq (by omega), f114_ok n x (120 - acc) 200 (by omega) (by omega) (by omega) (by omega) (by omega), Option.bind_some, ckI_eq (by omega), ckI_eq (idx_ok hp)]
      obtain ⟨b, hb, hg⟩ := ih (pre ++ [x]) (acc + x.weigh (120 - acc) 200) m (next_at hk) (by omega) (by omega) (by omega)
      rw [len_snoc] at hb
      refine ⟨b, hb, fun h => ⟨h2, ?_⟩⟩
      have := hg h
      intro y hy
      rcases List.mem_cons.1 hy with rfl | hy
      · have hz := Tm.great_size (d := y) (most := 120 - acc) (by omega) (by omega)
        omega
      · exact this.2 y hy
    · rw [if_neg h2]
      exact ⟨_, rfl, fun h => by simp at h; omega⟩
theorem f100_ok (n : Nat) (hn : 1000 < n) (vs : List Tm) : ∃ b, f100 n vs 120 = some b ∧ (b = false → vs.length ≤ 120 ∧ ∀ x ∈ vs, x.size ≤ 120) := by
  simp only [f100, o100_0, decide_eq_true_eq]
  by_cases h : 120 < (vs.length : Int)
  · rw [if_pos h]; exact ⟨_, rfl, by simp⟩
  · rw [if_neg h]
    obtain ⟨b, hb, hg⟩ := l100_ok n hn vs (by omega) vs [] 0 n rfl (by omega) (by omega) (by omega)
    rw [len_nil] at hb
    exact ⟨b, hb, fun hf => ⟨by omega, (hg hf).2⟩⟩
theorem allExact_c (t : Tm) (vs : List Tm) : ACalls Try.prog 29 [.agg t.cells, .one (.slice (Tm.rows vs))] (.v (.one (.bool true))) true := by
  rw [Tm.rows_eq]
  exact
  (ok29 (99980 + 20)).2 (t, vs, ()) true (by
    show f29 (99980 + 20) t vs = some true
    have hBig := BIG_eq
    simp only [f29, o29_0]
    rw [f62_ok _ t 120 (by omega) (by omega) (by omega), Option.bind_some]
    by_cases h : (120 : Int) < t.weigh 120 200
    · rw [if_pos (by simpa using h)]
    · rw [if_neg (by simpa using h)]
      have hs := Tm.great_size (by omega) h
      obtain ⟨b, hb, hg⟩ := f100_ok (99980 + 20) (by omega) vs
      rw [hb, Option.bind_some]
      cases b with
      | true => rfl
      | false =>
      obtain ⟨hl, hv⟩ := hg rfl
      rw [if_neg (by simp)]
      simp only [c29_1, o29_1]
      have hz := Tm.allZ_size t vs 120 (by omega) hv
      have hz' : (t.allZ vs).1.size ≤ 14400 := by
        rcases hz with hz | hz
        · omega
        · rw [hz]; decide
      rw [f101_ok _ t vs 120 hv (by omega) (by omega) (by omega) (by omega) (by omega), Option.bind_some, f102_ok _ t vs 120 hv (by omega) (by omega) (by omega) (by omega) (by omega), Option.bind_some, if_pos (by simp), f68_ok _ _ _ (by omega) (by omega), Tm.same_refl, w98_true]
      rfl)
end Go.Proofs.Yteaglcbnkephgaa
