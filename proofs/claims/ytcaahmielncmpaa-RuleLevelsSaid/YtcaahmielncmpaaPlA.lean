/-
  Plain facts on what the functions compute.
-/
import Derived.Test.YtcaahmielncmpaaGenK
set_option linter.unusedSimpArgs false
set_option linter.unusedVariables false
namespace Go.Proofs.Ytcaahmielncmpaa
open Go

def takes (s : Int) : Int :=
  if s = 3 ∨ s = 5 ∨ s = 6 ∨ s = 8 ∨ s = 10 ∨ s = 11 then 4 else if s = 1 ∨ s = 2 ∨ s = 7 ∨ s = 9 then 5 else if s = 4 ∨ s = 12 ∨ s = 13 ∨ s = 14 ∨ s = 21 then 6 else if s = 15 ∨ s = 18 ∨ s = 19 ∨ s = 20 then 9 else if s = 16 ∨ s = 17 then 12 else -1
def tkids (k s : Int) : Int :=
  if k = 1 ∨ k = 2 then 0 else if k = 18 ∨ k = 19 then 1 else if k = 3 ∨ k = 6 ∨ k = 13 ∨ k = 14 ∨ k = 15 ∨ k = 16 ∨ k = 21 ∨ k = 11 then 2 else if k = 4 ∨ k = 8 ∨ k = 9 ∨ k = 10 ∨ k = 20 then 3
  else if k = 5 ∨ k = 7 ∨ k = 12 ∨ k = 17 then 4 else if k = 22 then 6 else if k = 23 then takes s else -1
def tbinds (k i : Int) : Int :=
  if k = 3 ∨ k = 5 ∨ k = 6 ∨ k = 7 ∨ k = 8 ∨ k = 9 ∨ k = 13 ∨ k = 14 ∨ k = 16 ∨ k = 17 then (if i = 1 then 1 else 0) else if k = 4 then (if i = 1 ∨ i = 2 then 1 else 0) else if k = 22 then (if i = 2 then 2 else 0) else 0

theorem f129_eq (k i : Int) : f129 k i = some (tbinds k i) := by
  unfold f129 o129_0 c129_1 o129_1 tbinds
  simp only [ifB_eq]
  grind (splits := 100)
theorem f165_eq (s : Int) : f165 s = some (takes s) := by
  unfold f165 o165_0 c165_1 o165_1 c165_2 o165_2 c165_3 o165_3 c165_4 o165_4 takes
  simp only [ifB_eq]
  grind (splits := 100)
theorem f150_eq (k s : Int) : f150 k s = some (tkids k s) := by
  unfold f150 o150_0 c150_1 o150_1 c150_2 o150_2 c150_3 o150_3 c150_4 o150_4 c150_5 o150_5 tkids
  simp only [ifB_eq]
  simp only [f165_eq, Option.bind_some]
  grind (splits := 100)
end Go.Proofs.Ytcaahmielncmpaa
