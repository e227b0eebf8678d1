/-
  The statement returns true.
-/
import Derived.Test.YtcaahmielncmpaaRuI
import Derived.Test.YtcaahmielncmpaaGenRuleRight
set_option linter.unusedSimpArgs false
set_option linter.unusedVariables false
namespace Go.Proofs.Ytcaahmielncmpaa
open Go
theorem f58_ok (n : Nat) (c : List Ent) (js : List Jd) (hn : 2000 < n) : ∃ b, f58 n c js = some b ∧ (b = false → csize c ≤ 60 ∧ jsize js ≤ 180 ∧ js.length ≤ 8) := by
  simp only [f58, o58_0, ifB_eq]
  obtain ⟨b, hb, hq⟩ := f38_ok n c 60 (by omega) (by omega) (by omega)
  rw [hb, Option.bind_some]
  cases b with
  | true => exact ⟨true, rfl, fun h => by cases h⟩
  | false =>
  have h1 := hq rfl
  rw [if_neg (by simp)]
  obtain ⟨b, hb, hq⟩ := f53_ok n js 180 (by omega) (by omega) (by omega)
  rw [hb, Option.bind_some]
  cases b with
  | true => exact ⟨true, rfl, fun h => by cases h⟩
  | false =>
  have h2 := hq rfl
  rw [if_neg (by simp)]
  refine ⟨_, rfl, fun h => ?_⟩
  simp only [decide_eq_false_iff_not] at h
  refine ⟨by omega, by omega, by omega⟩
theorem w61_true (m : Nat) : f61 (m + 20) = some true := by kernel_rfl
theorem o62_cases {n : Nat} {c : List Ent} {r k : Int} {js : List Jd} (hn : 2000000 < n) (hl : csize c ≤ 60) (hj : jsize js ≤ 180) :
    ∃ x, f62 n c r k js = some x ∧ (x.2 = false → x.1 = zeroJ) ∧ (x.2 = true → jsz x.1 ≤ 1000000 ∧ rightJ (c.length : Int) x.1 = true ∧ x.1.eq = (decide (13 ≤ r) && decide (r ≤ 28))) := by
  have hB : csize c ≤ BIG := by rw [BIG_eq]; omega
  have hjl := jsize_len js
  have hs : ∀ j ∈ js, jsz j < n ∧ jsz j ≤ BIG := fun j hm => by
    have := jsize_mem hm
    unfold jsz
    rw [BIG_eq]; omega
  have hf := f62_ok n c r k js (by omega) hB (by rw [BIG_eq]; omega) (by omega) hs
  cases ho : ofOk c r js with
  | false =>
    rw [ho, if_neg (by simp)] at hf
    exact ⟨_, hf, fun _ => rfl, fun h => by cases h⟩
  | true =>
    obtain ⟨J, b, h1, h2, h3⟩ := conc_ok (k := k) hn hl hj ho
    have hff := f62_fin n c r k js J b (by omega) hB (by rw [BIG_eq]; omega) (by omega) hs (fun _ => h1) (by rw [BIG_eq]; omega)
    refine ⟨_, hff, ?_, ?_⟩
    · intro h
      by_cases hg : (ofOk c r js && (b && decide (J.i ≤ 1000))) = true
      · rw [if_pos hg] at h; cases h
      · rw [if_neg hg]
    · intro h
      by_cases hg : (ofOk c r js && (b && decide (J.i ≤ 1000))) = true
      · rw [if_pos hg]
        simp only [Bool.and_eq_true, decide_eq_true_eq] at hg
        obtain ⟨h4, h5⟩ := h3 hg.2.1 hg.2.2
        exact ⟨h2, h4, h5⟩
      · rw [if_neg hg] at h; cases h
theorem ruleRight_c (c : List Ent) (r k : Int) (js : List Jd) : ACalls Try.prog 12 [.one (.slice (c.map entC)), .one (.int r), .one (.int k), .one (.slice (js.map jdC))] (.v (.one (.bool true))) true :=
  (ok12 (9999980 + 20)).2 (c, r, k, js, ()) true (by
    show f12 (9999980 + 20) c r k js = some true
    obtain ⟨b, hb, hq⟩ := f58_ok (9999980 + 20) c js (by omega)
    simp only [f12, o12_0, ifB_eq]
    rw [hb, Option.bind_some]
    cases b with
    | true => rfl
    | false =>
    obtain ⟨h1, h2, h3⟩ := hq rfl
    have hBB := BIG_eq
    obtain ⟨x, hx, hx0, hx1⟩ := o62_cases (n := 9999980 + 20) (r := r) (k := k) (by omega) h1 h2
    rw [if_neg (by simp), hx, Option.bind_some]
    cases hxb : x.2 with
    | false =>
      rw [if_pos (by simp), hx0 hxb]
      have e : f63 tzero = some true := by rw [f63_eq]; rfl
      show (f63 tzero).bind _ = _
      rw [e, Option.bind_some, if_pos rfl]
      show (f63 tzero).bind _ = _
      rw [e, Option.bind_some, if_pos rfl]
      show (f63 tzero).bind _ = _
      rw [e, Option.bind_some, if_pos rfl, if_pos (by rfl), if_pos (by rfl), w61_true, Option.bind_some]
    | true =>
      obtain ⟨hs, hr, he⟩ := hx1 hxb
      unfold jsz at hs
      have hp := rightJ_Pr hr
      have hlv := lev_range hp.i
      have hu := pf_of hp.u
      have ha := pf_of hp.a
      rw [if_neg (by simp), f64_eq, Option.bind_some, he, beq_self_eq_true, if_neg (by simp), if_neg (by simp; omega), if_neg (by simp; omega),
        f65_ok _ x.1.u (by omega) (by omega), pf_pure hp.u, Option.bind_some, if_neg (by simp), f65_ok _ x.1.a (by omega) (by omega), pf_pure hp.a, Option.bind_some, if_neg (by simp),
        f52_ok _ x.1.u (by omega) (by omega), if_pos (marked_right hu.1), Option.bind_some, if_neg (by simp; omega), f52_ok _ x.1.a (by omega) (by omega), if_pos (marked_right ha.1), Option.bind_some, if_neg (by simp; omega)]
      unfold c12_1 o12_1
      simp only [ifB_eq]
      cases hxe : x.1.eq with
      | false =>
        have hz : isZ x.1.v = true := by
          unfold rightJ at hr
          simp only [Bool.and_eq_true] at hr
          have := hr.2.2.2
          rw [if_neg (by simp [hxe])] at this
          exact this
        rw [if_pos (by simp), f63_eq, hz, Option.bind_some, if_pos rfl, w61_true, Option.bind_some]
      | true =>
        have hv := hp.v hxe
        have hvv := pf_of hv
        rw [if_neg (by simp), f65_ok _ x.1.v (by omega) (by omega), pf_pure hv, Option.bind_some, if_pos rfl, f52_ok _ x.1.v (by omega) (by omega), if_pos (marked_right hvv.1), Option.bind_some, if_pos (by simp; omega), w61_true, Option.bind_some])
end Go.Proofs.Ytcaahmielncmpaa
