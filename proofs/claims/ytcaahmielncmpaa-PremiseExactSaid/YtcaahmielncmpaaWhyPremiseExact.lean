/-
  The statement returns true.
-/
import Derived.Test.YtcaahmielncmpaaRuB
import Derived.Test.YtcaahmielncmpaaGenPremiseExact
set_option linter.unusedSimpArgs false
set_option linter.unusedVariables false
namespace Go.Proofs.Ytcaahmielncmpaa
open Go
theorem f58_ok (n : Nat) (c : List Ent) (js : List Jd) (hn : 2000 < n) : ∃ b, f58 n c js = some b ∧ (b = false → csize c ≤ 60 ∧ jsize js ≤ 180 ∧ js.length ≤ 8) := by
  simp only [f58, o58_0, ifB_eq]
  obtain ⟨b, hb, hq⟩ := f38_ok n c 60 (by omega) (by omega) (by omega)
  rw [hb, Option.bind_some]
  cases b with
  | true => exact ⟨true, rfl, fun h => by cases h⟩
  | false =>
  have h1 := hq rfl
  rw [if_neg (by simp)]
  obtain ⟨b, hb, hq⟩ := f53_ok n js 180 (by omega) (by omega) (by omega)
  rw [hb, Option.bind_some]
  cases b with
  | true => exact ⟨true, rfl, fun h => by cases h⟩
  | false =>
  have h2 := hq rfl
  rw [if_neg (by simp)]
  refine ⟨_, rfl, fun h => ?_⟩
  simp only [decide_eq_false_iff_not] at h
  refine ⟨by omega, by omega, by omega⟩
theorem w61_true (m : Nat) : f61 (m + 20) = some true := by kernel_rfl
theorem premiseExact_c (c : List Ent) (r k : Int) (js : List Jd) : ACalls Try.prog 11 [.one (.slice (c.map entC)), .one (.int r), .one (.int k), .one (.slice (js.map jdC))] (.v (.one (.bool true))) true :=
  (ok11 (9980 + 20)).2 (c, r, k, js, ()) true (by
    show f11 (9980 + 20) c r k js = some true
    obtain ⟨b, hb, hq⟩ := f58_ok (9980 + 20) c js (by omega)
    simp only [f11, o11_0, ifB_eq]
    rw [hb, Option.bind_some]
    cases b with
    | true => rfl
    | false =>
    obtain ⟨h1, h2, h3⟩ := hq rfl
    have hB : csize c ≤ BIG := by rw [BIG_eq]; omega
    have hj : ∀ j ∈ js, jsz j < 9980 + 20 ∧ jsz j ≤ BIG ∧ jsz j ≤ 180 := fun j hj => by
      have := jsize_mem hj
      unfold jsz
      rw [BIG_eq]; omega
    rw [if_neg (by simp), f59_ok _ c r k js (by omega) hB (fun j h => ⟨(hj j h).1, (hj j h).2.1⟩), f60_ok _ c r k js (by omega) hB (fun j h => ⟨(hj j h).1, (hj j h).2.1⟩), Option.bind_some, Option.bind_some, beq_self_eq_true, if_pos rfl]
    have hs : csize (premC c r k js).1 ≤ 60 + 180 := by
      unfold premC
      by_cases g1 : pureC c = false ∨ k < 0 ∨ rkids r ≤ k
      · rw [if_pos g1]; simp [csize]
      rw [if_neg g1]
      by_cases g2 : rinner r k = false
      · rw [if_pos g2]; show csize c ≤ _; omega
      rw [if_neg g2]
      match js, hj with
      | [], _ => simp [csize]
      | j :: js, hj =>
        have := (hj j (by simp)).2.2
        unfold jsz at this
        show csize (if rightJ (c.length : Int) j = false ∨ (entryJ r j).2 = false then (([] : List Ent), false) else (c ++ [(entryJ r j).1], true)).1 ≤ _
        by_cases g3 : rightJ (c.length : Int) j = false ∨ (entryJ r j).2 = false
        · rw [if_pos g3]; simp [csize]
        rw [if_neg g3]
        show csize (c ++ [(entryJ r j).1]) ≤ _
        rw [csize_append]
        have : (entryJ r j).1.a.size ≤ j.u.size + j.v.size + j.a.size := by
          unfold entryJ
          by_cases h1 : r = 3 ∨ r = 6 ∨ r = 4
          · rw [if_pos h1]; show j.u.size ≤ _; omega
          rw [if_neg h1]
          by_cases h2 : r = 25 ∨ r = 26 ∨ r = 27 ∨ r = 28
          · rw [if_pos h2]; show j.u.size ≤ _; omega
          · rw [if_neg h2]; show j.a.size ≤ _; omega
        simp only [csize]; omega
    rw [f47_ok _ _ _ (by omega) (by rw [BIG_eq]; omega), sameC_refl, Option.bind_some, if_pos rfl, w61_true, Option.bind_some])
end Go.Proofs.Ytcaahmielncmpaa
