/-
  Plain facts on what the functions compute.
-/
import Derived.Test.YtcaahmielncmpaaGreatRuI
import Derived.Test.YtcaahmielncmpaaGreatPlT
set_option linter.unusedSimpArgs false
set_option linter.unusedVariables false
namespace Go.Proofs.YtcaahmielncmpaaGreat
open Go
set_option maxRecDepth 20000

/-- What rule.Of concludes. -/
def ofP (c : List Ent) (r k : Int) (js : List Jd) : Option Jd :=
  if ofOk c r js = true then (match concl c r k js with
    | some J => if J.i ≤ 1000 then some J else none
    | none => none) else none
def outP (o : Option Jd) : Jd × Bool := match o with
  | some J => (J, true)
  | none => (zeroJ, false)
structure Sized (c : List Ent) (js : List Jd) : Prop where
  len : c.length ≤ 900
  all : csize c ≤ 1000000
  each : ∀ e ∈ c, e.a.size ≤ 1002
  jz : ∀ j ∈ js, jsz j ≤ 1002
  jl : js.length ≤ 1000
theorem f9_ex {n : Nat} {c : List Ent} {r k : Int} {js : List Jd} (hn : 20000000 < n) (h : Sized c js) : f9 n c r k js = some (outP (ofP c r k js)) ∧
    ∀ J, ofP c r k js = some J → rightJ (c.length : Int) J = true ∧ J.eq = (decide (13 ≤ r) && decide (r ≤ 28)) ∧ jsz J ≤ 10000000 ∧ concl c r k js = some J ∧ ofOk c r js = true := by
  obtain ⟨h1, h2, h3, h4, h5⟩ := h
  have hB : csize c ≤ BIG := by rw [BIG_eq]; omega
  have hs : ∀ j ∈ js, jsz j < n ∧ jsz j ≤ BIG := fun j hm => by
    have := h4 j hm
    rw [BIG_eq]; omega
  have hf := f9_ok n c r k js (by omega) hB (by rw [BIG_eq]; omega) (by omega) hs
  cases ho : ofOk c r js with
  | false =>
    rw [ho, if_neg (by simp)] at hf
    have e : ofP c r k js = none := by unfold ofP; rw [ho]; rfl
    rw [e]
    exact ⟨hf, fun J h => by cases h⟩
  | true =>
    obtain ⟨J, b, q1, q2, q3, q4⟩ := conc_ok (k := k) hn h1 h2 h3 h4 ho
    have hff := f9_fin n c r k js J b (by omega) hB (by rw [BIG_eq]; omega) (by omega) hs (fun _ => q1) (by rw [BIG_eq]; omega)
    rw [hff, ho]
    unfold ofP
    rw [ho, if_pos rfl, q2]
    cases b with
    | false => exact ⟨by simp [outP], fun J h => by simp at h⟩
    | true =>
      by_cases hi : J.i ≤ 1000
      · simp only [hi, Bool.true_and, decide_true, if_true]
        refine ⟨rfl, fun J' hJ => ?_⟩
        cases hJ
        obtain ⟨g1, g2⟩ := q4 rfl hi
        exact ⟨g1, g2, q3, by simp, trivial⟩
      · simp only [hi, Bool.true_and, decide_false, if_true, if_false]
        exact ⟨rfl, fun J h => by cases h⟩

/-! ## Whole derivations -/
end Go.Proofs.YtcaahmielncmpaaGreat
