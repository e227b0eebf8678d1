/-
  The statement returns true.
-/
import Derived.Test.YteaglcbnkephgaaPlO
import Derived.Test.YteaglcbnkephgaaGenPutStrip
set_option linter.unusedSimpArgs false
set_option linter.unusedVariables false
namespace Go.Proofs.Yteaglcbnkephgaa
open Go
theorem w98_true (m : Nat) : f98 (m + 20) = some true := by kernel_rfl
theorem f99_ok (n : Nat) (t v : Tm) (hn : 2000 < n) : ∃ b, f99 n t v = some b ∧ (b = true → t.size ≤ 120 ∧ v.size ≤ 120 ∧ t.right = true ∧ v.right = true ∧ t.free ≤ 1000 ∧ v.free ≤ 1000 ∧ (t.kind = 1 ∨ t.kind = 2 ∨ t.plain = true ∨ v.marked = true)) := by
  simp only [f99, o99_0]
  rw [f62_ok _ t 120 (by omega) (by omega) (by omega), f62_ok _ v 120 (by omega) (by omega) (by omega), Option.bind_some, Option.bind_some]
  simp only [decide_eq_true_eq]
  by_cases h1 : (120 : Int) < t.weigh 120 200
  · rw [if_pos h1]; exact ⟨_, rfl, by simp⟩
  rw [if_neg h1]
  by_cases h2 : (120 : Int) < v.weigh 120 200
  · rw [if_pos h2]; exact ⟨_, rfl, by simp⟩
  rw [if_neg h2]
  have hs := Tm.great_size (by omega) h1
  have hs2 := Tm.great_size (by omega) h2
  have hB : t.size ≤ BIG := by rw [BIG_eq]; omega
  have hB2 : v.size ≤ BIG := by rw [BIG_eq]; omega
  rw [f81_ok _ t (by omega) hB, f81_ok _ v (by omega) hB2, Option.bind_some, Option.bind_some, f82_ok _ t (by omega) hB, f82_ok _ v (by omega) hB2, Option.bind_some, Option.bind_some]
  cases hr : t.right with
  | false => exact ⟨_, rfl, by simp⟩
  | true =>
  cases hr2 : v.right with
  | false => exact ⟨_, rfl, by simp⟩
  | true =>
  rw [if_neg (by simp), if_neg (by simp), if_pos rfl, if_pos rfl]
  by_cases h3 : 1000 < t.free
  · rw [if_pos h3]; exact ⟨_, rfl, by simp⟩
  rw [if_neg h3]
  by_cases h4 : 1000 < v.free
  · rw [if_pos h4]; exact ⟨_, rfl, by simp⟩
  rw [if_neg h4]
  simp only [c99_1, o99_1, decide_eq_true_eq]
  rw [f77_ok _ t (by omega) hB, f70_ok _ v (by omega) hB2, Option.bind_some, Option.bind_some]
  have base : ∀ b : Bool, (b = true → t.kind = 1 ∨ t.kind = 2 ∨ t.plain = true ∨ v.marked = true) → ∃ b', some b = some b' ∧ (b' = true → t.size ≤ 120 ∧ v.size ≤ 120 ∧ True ∧ True ∧ t.free ≤ 1000 ∧ v.free ≤ 1000 ∧ (t.kind = 1 ∨ t.kind = 2 ∨ t.plain = true ∨ v.marked = true)) := fun b hb => ⟨b, rfl, fun h => ⟨by omega, by omega, trivial, trivial, by omega, by omega, hb h⟩⟩
  by_cases h5 : t.kind = 1
  · rw [if_pos h5]; exact base _ (fun _ => .inl h5)
  rw [if_neg h5]
  by_cases h6 : t.kind = 2
  · rw [if_pos h6]; exact base _ (fun _ => .inr (.inl h6))
  rw [if_neg h6]
  by_cases h7 : t.plain = true
  · rw [if_pos h7]; exact base _ (fun _ => .inr (.inr (.inl h7)))
  · rw [if_neg h7]; exact base _ (fun h => .inr (.inr (.inr h)))
theorem putStrip_c (t v : Tm) : ACalls Try.prog 27 [.agg t.cells, .agg v.cells] (.v (.one (.bool true))) true :=
  (ok27 (99980 + 20)).2 (t, v, ()) true (by
    show f27 (99980 + 20) t v = some true
    simp only [f27, o27_0]
    obtain ⟨b, hb, hg⟩ := f99_ok (99980 + 20) t v (by omega)
    rw [hb, Option.bind_some]
    cases b with
    | false => rfl
    | true =>
      obtain ⟨hs1, hs2, hr1, hr2, hf1, hf2, hok⟩ := hg rfl
      rw [if_neg (by simp), f70_ok _ t (by omega) (by rw [BIG_eq]; omega), f70_ok _ v (by omega) (by rw [BIG_eq]; omega), Option.bind_some, Option.bind_some]
      cases hm1 : t.marked with
      | false => rfl
      | true =>
      cases hm2 : v.marked with
      | false => rfl
      | true =>
      rw [if_neg (by simp), if_neg (by simp)]
      have hfr := Tm.free_range t hr1
      have hfv := Tm.free_range v hr2
      have hd := Tm.deep_size t
      have hdv := Tm.deep_size v
      have hk : okv t v = true := okv_of hr2 hok
      have hp := Tm.strip_plain v hm2
      have hpt := Tm.strip_plain t hm1
      have hz := Tm.strip_size v hm2
      have hzt := Tm.strip_size t hm1
      have hsf := Tm.strip_free v hm2
      have hsft := Tm.strip_free t hm1
      have hdz := Tm.deep_size v.strip
      have hroom : v.room (2 * t.size) := by unfold Tm.room; omega
      have hroom' : v.strip.room (2 * t.size) := by unfold Tm.room; omega
      have hsz := Tm.sb_size v 120 (by omega) (by omega) (by omega) t hr1 0 (decide (13 ≤ t.kind))
      have hur := Tm.sb_right v t hr1 hr2 hok hroom hroom' (by omega)
      have hkm := marked_kind hm1
      have e := strip_put v t hm2 hm1 0 (decide (13 ≤ t.strip.kind))
      have e13 : decide (13 ≤ t.kind) = false := decide_eq_false (by omega)
      simp only [c27_1, o27_1]
      rw [f97_ok _ t v (by omega) (by omega) (by omega) (by rw [BIG_eq]; omega), Option.bind_some, Tm.putZ_sb t v hr1 hk (by omega)]
      rw [e13] at hsz hur ⊢
      have e1 : (Tm.sb (one v) 0 false t).stripZ = (Tm.sb (one v) 0 false t).strip := by unfold Tm.stripZ; rw [if_pos hur]
      have e2 : t.stripZ = t.strip := by unfold Tm.stripZ; rw [if_pos hr1]
      have e3 : v.stripZ = v.strip := by unfold Tm.stripZ; rw [if_pos hr2]
      have hlast := Tm.strip_size' _ hur
      rw [f79_ok _ _ (by omega) (by rw [BIG_eq]; omega), e1, Option.bind_some, f79_ok _ t (by omega) (by rw [BIG_eq]; omega), e2, Option.bind_some, f79_ok _ v (by omega) (by rw [BIG_eq]; omega), e3, Option.bind_some, f97_ok _ t.strip v.strip (by omega) (by omega) (by omega) (by rw [BIG_eq]; omega), Option.bind_some, Tm.putZ_sb t.strip v.strip (right_p hpt) (okv_of (right_p hp) (.inr (.inr (.inl hpt)))) (by omega), ← e, f68_ok _ _ _ (by omega) (by rw [BIG_eq]; omega), Tm.same_refl, w98_true]
      rfl)
end Go.Proofs.Yteaglcbnkephgaa
