/-
  The statement returns true.
-/
import Derived.Test.YteaglcbnkephgaaPlB
import Derived.Test.YteaglcbnkephgaaGenTermSums
set_option linter.unusedSimpArgs false
set_option linter.unusedVariables false
namespace Go.Proofs.Yteaglcbnkephgaa
open Go
theorem w61_true (m : Nat) : f61 (m + 20) = some true := by kernel_rfl
theorem Tm.deeps_append (a b : List Tm) : Tm.deeps (a ++ b) = max (Tm.deeps a) (Tm.deeps b) := by
  induction a with
  | nil => simp [Tm.deeps]
  | cons k a ih => simp only [List.cons_append, Tm.deeps, ih]; omega
theorem l8_ok (n : Nat) (t : Tm) (hn : 5000 ≤ n) (ht : t.size ≤ 400) (hw : f61 n = some true) : ∀ (rest pre : List Tm) (a d : Int) (m : Nat), t.kids = pre ++ rest → rest.length < m → a = 1 + Tm.sizes pre → d = Tm.deeps pre →
    l8_1 n m t a d (pre.length : Int) = some true := by
  have hB : (400 : Nat) ≤ BIG := by rw [BIG_eq]; omega
  have hd := Tm.deep_size t
  intro rest
  induction rest with
  | nil =>
    intro pre a d m hk hm ha hd'
    obtain ⟨m, rfl⟩ := fuel hm
    have e1 : a = t.size := by rw [Tm.size_eq, hk, ha]; simp
    have e2 : d + 1 = t.deep := by rw [Tm.deep_eq, hk, hd']; simp
    simp only [l8_1, o8_1, decide_eq_true_eq]
    rw [if_neg (ge_at hk), f63_ok n t (by omega) (by omega), Option.bind_some, if_pos e1.symm, f64_ok n t (by omega) (by omega), Option.bind_some, ckI_eq (by omega), if_pos e2.symm, hw]
    rfl
  | cons x rest ih =>
    intro pre a d m hk hm ha hd'
    obtain ⟨m, rfl⟩ := fuel hm
    have hx : x.size < t.size := Tm.size_kid (by rw [hk]; simp)
    have hs : t.size = 1 + (Tm.sizes pre + (x.size + Tm.sizes rest)) := by rw [Tm.size_eq, hk, Tm.sizes_append]; rfl
    have hl := Tm.length_le t.kids
    have hz := Tm.size_eq t
    have hlen : t.kids.length = pre.length + (rest.length + 1) := by rw [hk]; simp
    simp only [List.length_cons] at hm
    simp only [l8_1, o8_1, decide_eq_true_eq]
    rw [if_pos (lt_at hk), atI_at hk, f63_ok n x (by omega) (by omega), Option.bind_some, ckI_eq (by omega), atI_at hk, f64_ok n x (by omega) (by omega), Option.bind_some, ckI_eq (by omega)]
    have := ih (pre ++ [x]) (a + x.size) (max d x.deep) m (next_at hk) (by omega) (by rw [Tm.sizes_append]; simp [Tm.sizes]; omega) (by rw [Tm.deeps_append]; simp [Tm.deeps]; omega)
    rw [len_snoc] at this
    exact this
theorem termSums_c (t : Tm) : ACalls Try.prog 8 [.agg t.cells] (.v (.one (.bool true))) true :=
  (ok8 (9980 + 20)).2 (t, ()) true (by
    show f8 (9980 + 20) t = some true
    simp only [f8, o8_0]
    rw [f62_ok _ t 400 (by omega) (by omega) (by omega), Option.bind_some]
    by_cases h : (400 : Int) < t.weigh 400 200
    · rw [if_pos (by simpa using h)]
    · rw [if_neg (by simpa using h)]
      have hs := (Tm.great_size (by omega) h).1
      have := l8_ok (9980 + 20) t (by omega) (by omega) (w61_true _) t.kids [] 1 0 (9980 + 20) rfl (by have := Tm.len_kids t; omega) (by simp [Tm.sizes]) (by simp [Tm.deeps])
      exact this)
end Go.Proofs.Yteaglcbnkephgaa
