/-
  The statement returns true.
-/
import Derived.Test.YteaglcbnkephgaaPlP
import Derived.Test.YteaglcbnkephgaaGenPutAll
set_option linter.unusedSimpArgs false
set_option linter.unusedVariables false
namespace Go.Proofs.Yteaglcbnkephgaa
open Go
theorem w98_true (m : Nat) : f98 (m + 20) = some true := by kernel_rfl
theorem f99_ok (n : Nat) (t v : Tm) (hn : 2000 < n) : ∃ b, f99 n t v = some b ∧ (b = true → t.size ≤ 120 ∧ v.size ≤ 120 ∧ t.right = true ∧ v.right = true ∧ t.free ≤ 1000 ∧ v.free ≤ 1000 ∧ (t.kind = 1 ∨ t.kind = 2 ∨ t.plain = true ∨ v.marked = true)) := by
  simp only [f99, o99_0]
  rw [f62_ok _ t 120 (by omega) (by omega) (by omega), f62_ok _ v 120 (by omega) (by omega) (by omega), Option.bind_some, Option.bind_some]
  simp only [decide_eq_true_eq]
  by_cases h1 : (120 : Int) < t.weigh 120 200
  · rw [if_pos h1]; exact ⟨_, rfl, by simp⟩
  rw [if_neg h1]
  by_cases h2 : (120 : Int) < v.weigh 120 200
  · rw [if_pos h2]; exact ⟨_, rfl, by simp⟩
  rw [if_neg h2]
  have hs := Tm.great_size (by omega) h1
  have hs2 := Tm.great_size (by omega) h2
  have hB : t.size ≤ BIG := by rw [BIG_eq]; omega
  have hB2 : v.size ≤ BIG := by rw [BIG_eq]; omega
  rw [f81_ok _ t (by omega) hB, f81_ok _ v (by omega) hB2, Option.bind_some, Option.bind_some, f82_ok _ t (by omega) hB, f82_ok _ v (by omega) hB2, Option.bind_some, Option.bind_some]
  cases hr : t.right with
  | false => exact ⟨_, rfl, by simp⟩
  | true =>
  cases hr2 : v.right with
  | false => exact ⟨_, rfl, by simp⟩
  | true =>
  rw [if_neg (by simp), if_neg (by simp), if_pos rfl, if_pos rfl]
  by_cases h3 : 1000 < t.free
  · rw [if_pos h3]; exact ⟨_, rfl, by simp⟩
  rw [if_neg h3]
  by_cases h4 : 1000 < v.free
  · rw [if_pos h4]; exact ⟨_, rfl, by simp⟩
  rw [if_neg h4]
  simp only [c99_1, o99_1, decide_eq_true_eq]
  rw [f77_ok _ t (by omega) hB, f70_ok _ v (by omega) hB2, Option.bind_some, Option.bind_some]
  have base : ∀ b : Bool, (b = true → t.kind = 1 ∨ t.kind = 2 ∨ t.plain = true ∨ v.marked = true) → ∃ b', some b = some b' ∧ (b' = true → t.size ≤ 120 ∧ v.size ≤ 120 ∧ True ∧ True ∧ t.free ≤ 1000 ∧ v.free ≤ 1000 ∧ (t.kind = 1 ∨ t.kind = 2 ∨ t.plain = true ∨ v.marked = true)) := fun b hb => ⟨b, rfl, fun h => ⟨by omega, by omega, trivial, trivial, by omega, by omega, hb h⟩⟩
  by_cases h5 : t.kind = 1
  · rw [if_pos h5]; exact base _ (fun _ => .inl h5)
  rw [if_neg h5]
  by_cases h6 : t.kind = 2
  · rw [if_pos h6]; exact base _ (fun _ => .inr (.inl h6))
  rw [if_neg h6]
  by_cases h7 : t.plain = true
  · rw [if_pos h7]; exact base _ (fun _ => .inr (.inr (.inl h7)))
  · rw [if_neg h7]; exact base _ (fun h => .inr (.inr (.inr h)))
theorem l30_ok (n : Nat) (t v : Tm) (r : Option Bool) : ∀ (q j m : Nat), j + q = 100 → q < m → (∀ m, l30_2 n (m + 1) t v ([v] ++ vars 100) 100 = r) → l30_2 n m t v ([v] ++ vars j) j = r := by
  intro q
  induction q with
  | zero =>
    intro j m hc hm hr
    obtain ⟨m, rfl⟩ := fuel hm
    have := hr m
    have e : j = 100 := by omega
    subst e
    exact this
  | succ q ih =>
    intro j m hc hm hr
    obtain ⟨m, rfl⟩ := fuel hm
    have := ih (j + 1) m (by omega) (by omega) hr
    rw [vars_succ, ← List.append_assoc] at this
    simp only [l30_2, o30_2, decide_eq_true_eq, f103, o103_0, Option.bind_some]
    rw [if_pos (by omega), ckB_eq (by simp [vars_length]; omega), ckI_eq (by omega)]
    exact this
theorem putAll_c (t v : Tm) : ACalls Try.prog 30 [.agg t.cells, .agg v.cells] (.v (.one (.bool true))) true :=
  (ok30 (99980 + 20)).2 (t, v, ()) true (by
    show f30 (99980 + 20) t v = some true
    simp only [f30, o30_0]
    obtain ⟨b, hb, hg⟩ := f99_ok (99980 + 20) t v (by omega)
    rw [hb, Option.bind_some]
    cases b with
    | false => rfl
    | true =>
      obtain ⟨hs1, hs2, hr1, hr2, hf1, hf2, hok⟩ := hg rfl
      rw [if_neg (by simp), f82_ok _ t (by omega) (by rw [BIG_eq]; omega), if_pos hr1, Option.bind_some]
      simp only [decide_eq_true_eq]
      by_cases h1 : 100 < t.free
      · rw [if_pos h1]
      rw [if_neg h1]
      have hfr := Tm.free_range t hr1
      have hk : okv t v = true := okv_of hr2 hok
      have hz := Tm.strip_size' v hr2
      have hsz := Tm.sb_size v 120 (by omega) (by omega) (by omega) t hr1 0 (decide (13 ≤ t.kind))
      simp only [c30_1, o30_1, Tm.eta]
      refine l30_ok _ t v _ 100 0 _ (by omega) (by omega) (fun m => ?_)
      simp only [l30_2, o30_2, decide_eq_true_eq]
      have hall := allZ_list t [v] 100 (by omega) hr1 (by omega) (by omega) (by simp [hk]; omega) (one v) (one_at v) (fun p a h => one_var v p a h)
      rw [if_neg (by omega), f101_ok _ t _ 120 (fun x hx => by
        rcases List.mem_append.1 hx with hx | hx
        · simp at hx; subst hx; exact hs2
        · obtain ⟨j, hj, rfl⟩ := vars_mem hx
          rw [var_size]; omega) (by rw [BIG_eq]; omega) (by simp [vars_length, BIG_eq]) (by simp [vars_length]) (by omega) (by omega), Option.bind_some, hall]
      simp only [if_true]
      rw [f97_ok _ t v (by omega) (by omega) (by omega) (by rw [BIG_eq]; omega), Option.bind_some, Tm.putZ_sb t v hr1 hk (by omega), f68_ok _ _ _ (by omega) (by rw [BIG_eq]; omega), Tm.same_refl, w98_true]
      rfl)
end Go.Proofs.Yteaglcbnkephgaa
