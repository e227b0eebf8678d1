/-
  The statement returns true.
-/
import Derived.Test.YteaglcbnkephgaaPlD
import Derived.Test.YteaglcbnkephgaaGenTermSorts
set_option linter.unusedSimpArgs false
set_option linter.unusedVariables false
namespace Go.Proofs.Yteaglcbnkephgaa
open Go
theorem w61_true (m : Nat) : f61 (m + 20) = some true := by kernel_rfl
theorem Tm.markeds_get {k : Int} : ∀ {i : Nat} {pre rest : List Tm} {x : Tm}, Tm.markeds k i (pre ++ x :: rest) = true → (if k = 12 ∧ i + pre.length = 2 then x.plain else x.marked) = true
  | i, [], rest, x, h => by
    simp only [List.nil_append, Tm.markeds, Bool.and_eq_true] at h
    simpa using h.1
  | i, y :: pre, rest, x, h => by
    simp only [List.cons_append, Tm.markeds, Bool.and_eq_true] at h
    have := Tm.markeds_get h.2
    rwa [show i + 1 + pre.length = i + (y :: pre).length by simp; omega] at this
theorem both_sv {t : Tm} (hm : t.marked = true) (hp : t.plain = true) : t.kind = 1 ∨ t.kind = 2 := by
  rw [Tm.marked_eq] at hm
  rw [Tm.plain_eq] at hp
  simp only [Bool.and_eq_true, Bool.or_eq_true, decide_eq_true_eq] at hm hp
  omega
theorem sv_both {t : Tm} (hk : t.kind = 1 ∨ t.kind = 2) : t.marked = t.plain := by
  rw [Tm.marked_eq, Tm.plain_eq]
  cases hn : t.node with
  | false => simp
  | true =>
    have h1 := node_nil hn hk
    rw [h1]
    have h2 : (decide (1 ≤ t.kind) && decide (t.kind ≤ 12)) = true := by simp; omega
    have h3 : (decide (t.kind = 1) || (decide (t.kind = 2) || (decide (13 ≤ t.kind) && decide (t.kind ≤ 23)))) = true := by rcases hk with h | h <;> simp [h]
    rw [h2, h3]
    rfl
theorem sv_count {t : Tm} (hn : t.node = true) (hk : t.kind = 1 ∨ t.kind = 2) : t.count = 0 := by
  rw [Tm.count_eq, node_nil hn hk]
  simp [Tm.counts]
  omega
theorem l18_ok (n : Nat) (t : Tm) (hn : 5000 ≤ n) (ht : t.size ≤ 400) (hw : f61 n = some true) (m p : Bool) (hm : m = t.marked) (hp : p = t.plain) : ∀ (rest pre : List Tm) (f : Nat), t.kids = pre ++ rest → rest.length < f → l18_2 n f t m p (pre.length : Int) = some true := by
  have hB : (400 : Nat) ≤ BIG := by rw [BIG_eq]; omega
  intro rest
  induction rest with
  | nil =>
    intro pre f hk hf
    obtain ⟨f, rfl⟩ := fuel hf
    simp only [l18_2, o18_2, decide_eq_true_eq]
    rw [if_neg (ge_at hk), hw]
    rfl
  | cons x rest ih =>
    intro pre f hk hf
    obtain ⟨f, rfl⟩ := fuel hf
    simp only [List.length_cons] at hf
    have hmem : x ∈ t.kids := by rw [hk]; simp
    have hx : x.size < t.size := Tm.size_kid hmem
    have hl := Tm.len_kids t
    have hlen : t.kids.length = pre.length + (rest.length + 1) := by rw [hk]; simp
    simp only [l18_2, o18_2, decide_eq_true_eq, c18_3, o18_3]
    rw [if_pos (lt_at hk), f83_ok n t (by omega) (by omega), Option.bind_some, hw]
    cases hr : t.right with
    | false => rfl
    | true =>
      have := ih (pre ++ [x]) f (next_at hk) (by omega)
      rw [len_snoc] at this
      have hxr := Tm.right_kid hr hmem
      have hpl : t.plain = true → x.plain = true := fun h => by
        rw [Tm.plain_eq] at h
        simp only [Bool.and_eq_true] at h
        exact Tm.plains_mem h.2.2 hmem
      have hmk : t.marked = true → (if t.kind = 12 ∧ pre.length = 2 then x.plain else x.marked) = true := fun h => by
        rw [Tm.marked_eq] at h
        simp only [Bool.and_eq_true] at h
        have h2 := h.2.2
        rw [hk] at h2
        simpa using Tm.markeds_get h2
      simp only [atI_at hk]
      rw [f83_ok n x (by omega) (by omega), f86_ok n x (by omega) (by omega), f84_ok n x (by omega) (by omega), Option.bind_some, Option.bind_some, Option.bind_some, ckI_eq (idx_ok (by omega)), this, hxr]
      have e2 : (pre.length : Int) = 2 ↔ pre.length = 2 := by omega
      subst hm hp
      have hsv : x.plain = true → (x.marked = true ↔ x.kind = 1 ∨ x.kind = 2) := fun h => ⟨fun h2 => both_sv h2 h, fun h2 => by rw [sv_both h2]; exact h⟩
      cases htm : t.marked <;> cases htp : t.plain <;> simp only [htm, htp, forall_const] at hpl hmk <;> simp only [Bool.not_true, Bool.not_false, Bool.false_eq_true, if_true, if_false, decide_eq_true_eq, e2]
      · simp [hpl]
      · by_cases h12 : t.kind = 12
        · by_cases h2 : pre.length = 2
          · simp only [h12, h2, and_self, if_true] at hmk
            have := hsv hmk
            simp only [h12, h2, decide_true, Bool.not_true, Bool.false_eq_true, if_false]
            by_cases hk1 : x.kind = 1
            · simp [hk1, this.2 (.inl hk1)]
            · by_cases hk2 : x.kind = 2
              · simp [hk2, this.2 (.inr hk2)]
              · have h3 : x.marked = false := by
                  cases h4 : x.marked with
                  | false => rfl
                  | true => rcases this.1 h4 with h5 | h5 <;> contradiction
                simp [hk1, hk2, h3]
          · simp only [h2, and_false, if_false] at hmk
            simp [h12, h2, hmk]
        · simp only [h12, false_and, if_false] at hmk
          simp [h12, hmk]
theorem termSorts_c (t : Tm) : ACalls Try.prog 18 [.agg t.cells] (.v (.one (.bool true))) true :=
  (ok18 (9980 + 20)).2 (t, ()) true (by
    show f18 (9980 + 20) t = some true
    simp only [f18, o18_0]
    rw [f62_ok _ t 400 (by omega) (by omega) (by omega), Option.bind_some]
    by_cases h : (400 : Int) < t.weigh 400 200
    · rw [if_pos (by simpa using h)]
    · rw [if_neg (by simpa using h)]
      have hs := (Tm.great_size (by omega) h).1
      have hB : t.size ≤ BIG := by rw [BIG_eq]; omega
      have hn : t.size < 9980 + 20 := by omega
      have h1 := fun (m p : Bool) (hm : m = t.marked) (hp : p = t.plain) => l18_ok (9980 + 20) t (by omega) (by omega) (w61_true _) m p hm hp t.kids [] (9980 + 20) rfl (by have := Tm.len_kids t; omega)
      rw [len_nil] at h1
      have h2 : c18_1 (9980 + 20) (l18_2 (9980 + 20) (9980 + 20)) t t.marked t.plain = some true := h1 _ _ rfl rfl
      rw [f84_ok _ t hn hB, f86_ok _ t hn hB, f83_ok _ t hn hB, f85_ok _ t hn hB]
      simp only [Option.bind_some, h2]
      have hsv : t.marked = true → t.plain = true → t.kind = 1 ∨ t.kind = 2 := both_sv
      have hvs : t.kind = 1 ∨ t.kind = 2 → t.marked = t.plain := sv_both
      have hc : t.marked = true → (t.kind = 1 ∨ t.kind = 2) → t.count = 0 := fun hm hk => sv_count (by rw [Tm.marked_eq] at hm; simp only [Bool.and_eq_true] at hm; exact hm.2.1) hk
      simp only [Tm.right, Tm.pure]
      have bb : ∀ b : Bool, b = true ∨ b = false := fun b => by cases b <;> simp
      rcases bb t.marked with hm | hm <;> rcases bb t.plain with hp | hp <;> simp only [hm, hp, forall_const] at hsv hvs hc <;> simp only [hm, hp] <;> by_cases hk1 : t.kind = 1 <;> by_cases hk2 : t.kind = 2 <;> simp_all)
end Go.Proofs.Yteaglcbnkephgaa
