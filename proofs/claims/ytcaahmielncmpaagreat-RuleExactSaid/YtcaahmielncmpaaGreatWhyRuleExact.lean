/-
  The statement returns true.
-/
import Derived.Test.YtcaahmielncmpaaGreatRuL
import Derived.Test.YtcaahmielncmpaaGreatGenRuleExact
set_option linter.unusedSimpArgs false
set_option linter.unusedVariables false
namespace Go.Proofs.YtcaahmielncmpaaGreat
open Go
set_option maxRecDepth 20000
theorem f6_ok (n : Nat) (c : List Ent) (js : List Jd) (hn : 2000 < n) : ∃ b, f6 n c js = some b ∧ (b = false → csize c ≤ 60 ∧ jsize js ≤ 180 ∧ js.length ≤ 8) := by
  simp only [f6, o6_0, ifB_eq]
  obtain ⟨b, hb, hq⟩ := f26_ok n c 60 (by omega) (by omega) (by omega)
  rw [hb, Option.bind_some]
  cases b with
  | true => exact ⟨true, rfl, fun h => by cases h⟩
  | false =>
  have h1 := hq rfl
  rw [if_neg (by simp)]
  obtain ⟨b, hb, hq⟩ := f27_ok n js 180 (by omega) (by omega) (by omega)
  rw [hb, Option.bind_some]
  cases b with
  | true => exact ⟨true, rfl, fun h => by cases h⟩
  | false =>
  have h2 := hq rfl
  rw [if_neg (by simp)]
  refine ⟨_, rfl, fun h => ?_⟩
  simp only [decide_eq_false_iff_not] at h
  refine ⟨by omega, by omega, by omega⟩
theorem w14_true (m : Nat) : f14 (m + 20) = some true := by kernel_rfl
theorem l3_ok (n : Nat) (c : List Ent) (js : List Jd) (hn : 20000000 < n) (hc : csize c ≤ 60) (hj : jsize js ≤ 180) (hl : js.length ≤ 8) : ∀ (rest pre : List Jd) (m : Nat), js = pre ++ rest → rest.length < m → l3_1 n m c js c js (pre.length : Int) = some true
  | [], pre, m, h, hm => by
    obtain ⟨m, rfl⟩ := fuel hm
    simp only [l3_1, o3_1, decide_eq_true_eq, ifB_eq]
    rw [if_neg (ge_at h), f12_ok n c c (by omega) (by rw [BIG_eq]; omega), sameC_refl, Option.bind_some, if_pos rfl, show n = (n - 20) + 20 by omega, w14_true, Option.bind_some]
  | x :: rest, pre, m, h, hm => by
    obtain ⟨m, rfl⟩ := fuel hm
    simp only [List.length_cons] at hm
    have hlt := len_of_eq h
    have hx := jsize_mem (show x ∈ js by rw [h]; simp)
    simp only [l3_1, o3_1, decide_eq_true_eq, ifB_eq]
    rw [if_pos (lt_at h), atI_at h, atI_at h, f11_ok n x x (by omega) (by rw [BIG_eq]; omega), sameJ_refl, Option.bind_some, if_neg (by simp), ckI_eq (by omega)]
    have := l3_ok n c js hn hc hj hl rest (pre ++ [x]) m (next_at h) (by omega)
    rw [len_snoc] at this
    exact this
theorem ruleExact_c (c : List Ent) (r k : Int) (js : List Jd) : ACalls Tryz.prog 3 [.one (.slice (c.map entC)), .one (.int r), .one (.int k), .one (.slice (js.map jdC))] (.v (.one (.bool true))) true :=
  (ok3 (99999980 + 20)).2 (c, r, k, js, ()) true (by
    show f3 (99999980 + 20) c r k js = some true
    have hB := BIG_eq
    obtain ⟨b, hb, hq⟩ := f6_ok (99999980 + 20) c js (by omega)
    simp only [f3, o3_0, ifB_eq]
    rw [hb, Option.bind_some]
    cases b with
    | true => rfl
    | false =>
    obtain ⟨h1, h2, h3⟩ := hq rfl
    have hcl := csize_len c
    have hs : Sized c js := ⟨by omega, by omega, fun e he => by have := csize_mem he; omega, fun j hj => by have := jsize_mem hj; unfold jsz; omega, by omega⟩
    obtain ⟨g1, g2⟩ := f9_ex (n := 99999980 + 20) (r := r) (k := k) (by omega) hs
    have g3 := f10_ok (n := 99999980 + 20) (r := r) (k := k) (by omega) hs
    have hsz : jsz (outP (ofP c r k js)).1 ≤ 10000000 := by
      cases ho : ofP c r k js with
      | none => show jsz zeroJ ≤ _; decide
      | some J => exact (g2 J ho).2.2.1
    unfold jsz at hsz
    rw [if_neg (by simp), f7_ok _ c (by omega) (by omega), Option.bind_some, f8_ok _ js (by omega) (by omega), Option.bind_some, g1, Option.bind_some, g3, Option.bind_some]
    generalize outP (ofP c r k js) = x at hsz
    rw [beq_self_eq_true, if_neg (by simp), f11_ok _ x.1 x.1 (by omega) (by omega), sameJ_refl, Option.bind_some, if_neg (by simp), f12_ok _ c c (by omega) (by omega), sameC_refl, Option.bind_some, if_neg (by simp), if_neg (by simp),
      ckB_eq (by simp only [Bool.and_eq_true, decide_eq_true_eq]; omega)]
    have := l3_ok (99999980 + 20) c js (by omega) h1 h2 h3 js [] (99999980 + 20) rfl (by omega)
    rw [len_nil] at this
    exact this)
end Go.Proofs.YtcaahmielncmpaaGreat
