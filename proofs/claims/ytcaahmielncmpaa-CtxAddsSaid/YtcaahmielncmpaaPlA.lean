/-
  Plain facts on what the functions compute.
-/
import Derived.Test.YtcaahmielncmpaaGenK
set_option linter.unusedSimpArgs false
set_option linter.unusedVariables false
namespace Go.Proofs.Ytcaahmielncmpaa
open Go

def takes (s : Int) : Int :=
  if s = 3 ∨ s = 5 ∨ s = 6 ∨ s = 8 ∨ s = 10 ∨ s = 11 then 4 else if s = 1 ∨ s = 2 ∨ s = 7 ∨ s = 9 then 5 else if s = 4 ∨ s = 12 ∨ s = 13 ∨ s = 14 ∨ s = 21 then 6 else if s = 15 ∨ s = 18 ∨ s = 19 ∨ s = 20 then 9 else if s = 16 ∨ s = 17 then 12 else -1
def tkids (k s : Int) : Int :=
  if k = 1 ∨ k = 2 then 0 else if k = 18 ∨ k = 19 then 1 else if k = 3 ∨ k = 6 ∨ k = 13 ∨ k = 14 ∨ k = 15 ∨ k = 16 ∨ k = 21 ∨ k = 11 then 2 else if k = 4 ∨ k = 8 ∨ k = 9 ∨ k = 10 ∨ k = 20 then 3
  else if k = 5 ∨ k = 7 ∨ k = 12 ∨ k = 17 then 4 else if k = 22 then 6 else if k = 23 then takes s else -1
def tbinds (k i : Int) : Int :=
  if k = 3 ∨ k = 5 ∨ k = 6 ∨ k = 7 ∨ k = 8 ∨ k = 9 ∨ k = 13 ∨ k = 14 ∨ k = 16 ∨ k = 17 then (if i = 1 then 1 else 0) else if k = 4 then (if i = 1 ∨ i = 2 then 1 else 0) else if k = 22 then (if i = 2 then 2 else 0) else 0

theorem f129_eq (k i : Int) : f129 k i = some (tbinds k i) := by
  unfold f129 o129_0 c129_1 o129_1 tbinds
  simp only [ifB_eq]
  grind (splits := 100)
theorem f128_eq (k i : Int) : f128 k i = some (tbinds k i) := by
  unfold f128 o128_0 c128_1 o128_1 tbinds
  simp only [ifB_eq]
  grind (splits := 100)
theorem f165_eq (s : Int) : f165 s = some (takes s) := by
  unfold f165 o165_0 c165_1 o165_1 c165_2 o165_2 c165_3 o165_3 c165_4 o165_4 takes
  simp only [ifB_eq]
  grind (splits := 100)
theorem f150_eq (k s : Int) : f150 k s = some (tkids k s) := by
  unfold f150 o150_0 c150_1 o150_1 c150_2 o150_2 c150_3 o150_3 c150_4 o150_4 c150_5 o150_5 tkids
  simp only [ifB_eq]
  simp only [f165_eq, Option.bind_some]
  grind (splits := 100)
theorem takes_out {s : Int} (h : s < 1 ∨ 21 < s) : takes s = -1 := by
  unfold takes
  rw [if_neg (by omega), if_neg (by omega), if_neg (by omega), if_neg (by omega), if_neg (by omega)]
theorem takes_tab (s : Int) (h1 : 1 ≤ s) (h2 : s ≤ 21) : ([5, 5, 4, 6, 4, 4, 5, 4, 5, 4, 4, 6, 6, 6, 9, 12, 12, 9, 9, 9, 6] : List Int)[(s - 1).toNat]? = some (takes s) := by
  obtain ⟨n, hn, rfl⟩ : ∃ n : Nat, n < 21 ∧ s = n + 1 := ⟨(s - 1).toNat, by omega, by omega⟩
  have e : ((n : Int) + 1 - 1).toNat = n := by omega
  rw [e]
  have h3 : ∀ n : Nat, n < 21 → ([5, 5, 4, 6, 4, 4, 5, 4, 5, 4, 4, 6, 6, 6, 9, 12, 12, 9, 9, 9, 6] : List Int)[n]? = some (takes (n + 1)) := by decide
  exact h3 n hn
theorem f124_last (t1 : Int) (l : List Int) (hl : l = [5, 5, 4, 6, 4, 4, 5, 4, 5, 4, 4, 6, 6, 6, 9, 12, 12, 9, 9, 9, 6]) (b : Bool) (hb : b = decide (1 ≤ t1 ∧ t1 ≤ 21)) : o124_6 t1 l b = some (takes t1) := by
  unfold o124_6
  simp only [ifB_eq]
  by_cases h : 1 ≤ t1 ∧ t1 ≤ 21
  · have h3 := takes_tab t1 h.1 h.2
    rw [← hl] at h3
    have h4 : l.length = 21 := by rw [hl]; rfl
    rw [hb, decide_eq_true h, if_pos rfl]
    rw [ckI_eq (by omega)]
    unfold ckB atN
    rw [if_pos (by simp [h4]; omega), h3]
  · rw [hb, decide_eq_false h, if_neg (by simp), takes_out (by omega)]
theorem f124_eq (k s : Int) : f124 k s = some (tkids k s) := by
  unfold f124 o124_0 c124_1 o124_1 c124_2 o124_2 c124_3 o124_3 c124_4 o124_4 c124_5 o124_5 c124_6
  simp only [ifB_eq]
  have h1 : ∀ b, b = decide (1 ≤ s ∧ s ≤ 21) → o124_6 s [5, 5, 4, 6, 4, 4, 5, 4, 5, 4, 4, 6, 6, 6, 9, 12, 12, 9, 9, 9, 6] b = some (takes s) := fun b hb => f124_last s _ rfl b hb
  have h2 : 1 ≤ s → o124_6 s [5, 5, 4, 6, 4, 4, 5, 4, 5, 4, 4, 6, 6, 6, 9, 12, 12, 9, 9, 9, 6] (decide (s ≤ 21)) = some (takes s) := fun h => h1 _ (by simp [h])
  have h3 : ¬ 1 ≤ s → o124_6 s [5, 5, 4, 6, 4, 4, 5, 4, 5, 4, 4, 6, 6, 6, 9, 12, 12, 9, 9, 9, 6] false = some (takes s) := fun h => h1 _ (by simp [h])
  unfold tkids
  by_cases hs : 1 ≤ s
  · simp only [hs, decide_true, if_true, List.length_cons, List.length_nil]
    have h2 := h2 hs
    simp only [show (((0 + 1 + 1 + 1 + 1 + 1 + 1 + 1 + 1 + 1 + 1 + 1 + 1 + 1 + 1 + 1 + 1 + 1 + 1 + 1 + 1 + 1 : Nat)) : Int) = 21 from rfl, h2]
    grind (splits := 100)
  · simp only [hs, decide_false, Bool.false_eq_true, if_false, h3 hs]
    grind (splits := 100)
end Go.Proofs.Ytcaahmielncmpaa
