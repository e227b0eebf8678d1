/-
  The statement returns true.
-/
import Derived.Test.YtcaahmielncmpaaRuD
import Derived.Test.YtcaahmielncmpaaGenRuleLevels
set_option linter.unusedSimpArgs false
set_option linter.unusedVariables false
namespace Go.Proofs.Ytcaahmielncmpaa
open Go
theorem f58_ok (n : Nat) (c : List Ent) (js : List Jd) (hn : 2000 < n) : ∃ b, f58 n c js = some b ∧ (b = false → csize c ≤ 60 ∧ jsize js ≤ 180 ∧ js.length ≤ 8) := by
  simp only [f58, o58_0, ifB_eq]
  obtain ⟨b, hb, hq⟩ := f38_ok n c 60 (by omega) (by omega) (by omega)
  rw [hb, Option.bind_some]
  cases b with
  | true => exact ⟨true, rfl, fun h => by cases h⟩
  | false =>
  have h1 := hq rfl
  rw [if_neg (by simp)]
  obtain ⟨b, hb, hq⟩ := f53_ok n js 180 (by omega) (by omega) (by omega)
  rw [hb, Option.bind_some]
  cases b with
  | true => exact ⟨true, rfl, fun h => by cases h⟩
  | false =>
  have h2 := hq rfl
  rw [if_neg (by simp)]
  refine ⟨_, rfl, fun h => ?_⟩
  simp only [decide_eq_false_iff_not] at h
  refine ⟨by omega, by omega, by omega⟩
theorem w61_true (m : Nat) : f61 (m + 20) = some true := by kernel_rfl
theorem conv62 (n : Nat) (c : List Ent) (js : List Jd) (hn : 2000 < n) (h1 : csize c ≤ 60) (h2 : jsize js ≤ 180) (h3 : js.length ≤ 8) :
    ∃ x, f62 n c 12 0 js = some x ∧ (x.2 = true → ∃ j q, js = [j, q] ∧ x.1 = Jd.mk false j.u tzero q.v j.i) := by
  have hB : csize c ≤ BIG := by rw [BIG_eq]; omega
  have hj : ∀ j ∈ js, jsz j < n ∧ jsz j ≤ BIG := fun j hj => by
    have := jsize_mem hj
    unfold jsz
    rw [BIG_eq]; omega
  cases ho : ofOk c 12 js with
  | false =>
    refine ⟨(zeroJ, false), ?_, fun h => by cases h⟩
    rw [f62_ok n c 12 0 js (by omega) hB (by rw [BIG_eq]; omega) (by omega) hj, ho]; rfl
  | true =>
    obtain ⟨hc, hl, hp⟩ := ofOk_of ho
    have hl2 : js.length = 2 := by
      have : rkids 12 = 2 := by decide
      omega
    match js, hl2 with
    | [j, q], _ =>
      have hin : ∀ i : Nat, rinner 12 (i : Nat) = false := fun i => inner_none (.inr (.inr rfl)) _
      have hr := (premOk_none hin _ _).1 hp q (by simp)
      have hj1 := hj j (by simp)
      have hq1 := hj q (by simp)
      have hz := tzero_size
      refine ⟨_, f62_fin n c 12 0 [j, q] (Jd.mk false j.u tzero q.v j.i) (!j.eq && convB j q) (by omega) hB (by rw [BIG_eq]; simp) (by simp; omega) hj (fun _ => by
        rw [f116_ty _ _ _ _ _ (by omega) (by omega), f146_12 n j q hj1 (rightJ_RJ hr).ai]) (by
          simp only [jsize] at h2
          unfold jsz
          show j.u.size + tzero.size + q.v.size < _ ∧ j.u.size + tzero.size + q.v.size ≤ _
          rw [BIG_eq]; omega), fun h => ?_⟩
      by_cases hg : (ofOk c 12 [j, q] && ((!j.eq && convB j q) && decide (j.i ≤ 1000))) = true
      · rw [if_pos hg]; exact ⟨j, q, rfl, rfl⟩
      · rw [if_neg hg] at h; cases h
theorem ruleLevels_c (c : List Ent) (a b : List Jd) : ACalls Try.prog 14 [.one (.slice (c.map entC)), .one (.slice (a.map jdC)), .one (.slice (b.map jdC))] (.v (.one (.bool true))) true :=
  (ok14 (9980 + 20)).2 (c, a, b, ()) true (by
    show f14 (9980 + 20) c a b = some true
    obtain ⟨p, hp, hpq⟩ := f58_ok (9980 + 20) c a (by omega)
    obtain ⟨q, hq, hqq⟩ := f58_ok (9980 + 20) c b (by omega)
    simp only [f14, o14_0, ifB_eq]
    rw [hp, Option.bind_some]
    cases p with
    | true => rfl
    | false =>
    rw [if_neg (by simp), hq, Option.bind_some]
    cases q with
    | true => rfl
    | false =>
    obtain ⟨h1, h2, h3⟩ := hpq rfl
    obtain ⟨_, h4, h5⟩ := hqq rfl
    obtain ⟨x, hx, hx2⟩ := conv62 (9980 + 20) c a (by omega) h1 h2 h3
    obtain ⟨y, hy, hy2⟩ := conv62 (9980 + 20) c b (by omega) h1 h4 h5
    simp only [c14_1, o14_1, ifB_eq]
    rw [if_neg (by simp), hx, Option.bind_some, hy, Option.bind_some]
    cases hxb : x.2 with
    | false => rw [if_pos (by simp), w61_true, Option.bind_some]
    | true =>
    rw [if_neg (by simp)]
    cases hyb : y.2 with
    | false => rw [if_pos (by simp), w61_true, Option.bind_some]
    | true =>
    obtain ⟨j, q, rfl, ex⟩ := hx2 hxb
    obtain ⟨j', q', rfl, ey⟩ := hy2 hyb
    simp only [jsize] at h2 h4
    rw [if_neg (by simp)]
    simp only [c14_2, o14_2, c14_3, o14_3, ifB_eq, ex, ey]
    rw [if_neg (by simp), if_neg (by simp), atI_eq (x := j) (by omega) rfl, if_pos (by simp), atI_eq (x := j') (by omega) rfl, if_pos (by simp), atI_eq (x := j) (by omega) rfl, f23_ok _ _ _ (by omega) (by rw [BIG_eq]; omega), (Tm.same_iff j.u j.u).2 rfl, Option.bind_some, if_pos rfl,
      atI_eq (x := q) (by omega) rfl, f23_ok _ _ _ (by omega) (by rw [BIG_eq]; omega), (Tm.same_iff q.v q.v).2 rfl, Option.bind_some, if_pos rfl, if_pos (by simp), w61_true, Option.bind_some])
end Go.Proofs.Ytcaahmielncmpaa
