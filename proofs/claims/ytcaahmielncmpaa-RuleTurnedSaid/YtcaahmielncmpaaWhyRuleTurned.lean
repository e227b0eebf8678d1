/-
  The statement returns true.
-/
import Derived.Test.YtcaahmielncmpaaRuD
import Derived.Test.YtcaahmielncmpaaGenRuleTurned
set_option linter.unusedSimpArgs false
set_option linter.unusedVariables false
namespace Go.Proofs.Ytcaahmielncmpaa
open Go
theorem f58_ok (n : Nat) (c : List Ent) (js : List Jd) (hn : 2000 < n) : ∃ b, f58 n c js = some b ∧ (b = false → csize c ≤ 60 ∧ jsize js ≤ 180 ∧ js.length ≤ 8) := by
  simp only [f58, o58_0, ifB_eq]
  obtain ⟨b, hb, hq⟩ := f38_ok n c 60 (by omega) (by omega) (by omega)
  rw [hb, Option.bind_some]
  cases b with
  | true => exact ⟨true, rfl, fun h => by cases h⟩
  | false =>
  have h1 := hq rfl
  rw [if_neg (by simp)]
  obtain ⟨b, hb, hq⟩ := f53_ok n js 180 (by omega) (by omega) (by omega)
  rw [hb, Option.bind_some]
  cases b with
  | true => exact ⟨true, rfl, fun h => by cases h⟩
  | false =>
  have h2 := hq rfl
  rw [if_neg (by simp)]
  refine ⟨_, rfl, fun h => ?_⟩
  simp only [decide_eq_false_iff_not] at h
  refine ⟨by omega, by omega, by omega⟩
theorem w61_true (m : Nat) : f61 (m + 20) = some true := by kernel_rfl
theorem ruleTurned_c (c : List Ent) (J : Jd) : ACalls Try.prog 13 [.one (.slice (c.map entC)), .agg (jdC J)] (.v (.one (.bool true))) true :=
  (ok13 (9980 + 20)).2 (c, J, ()) true (by
    show f13 (9980 + 20) c J = some true
    obtain ⟨b, hb, hq⟩ := f58_ok (9980 + 20) c [J] (by omega)
    simp only [f13, o13_0, ifB_eq, jd_eta, Jd.eta]
    rw [hb, Option.bind_some]
    cases b with
    | true => rfl
    | false =>
    obtain ⟨h1, h2, h3⟩ := hq rfl
    simp only [jsize] at h2
    have hB : csize c ≤ BIG := by rw [BIG_eq]; omega
    have hJ : jsz J < 9980 + 20 ∧ jsz J ≤ BIG := by unfold jsz; rw [BIG_eq]; omega
    have hK : jsz (Jd.mk true J.v J.u J.a J.i) < 9980 + 20 ∧ jsz (Jd.mk true J.v J.u J.a J.i) ≤ BIG := by unfold jsz; rw [BIG_eq]; show J.v.size + J.u.size + J.a.size < _ ∧ J.v.size + J.u.size + J.a.size ≤ _; omega
    have hz := tzero_size
    have e14 : ∀ j : Jd, jsz j < 9980 + 20 ∧ jsz j ≤ BIG → f62 (9980 + 20) c 14 0 [j] = some (if (ofOk c 14 [j] && (j.eq && decide (j.i ≤ 1000))) = true then (Jd.mk true j.v j.u j.a j.i, true) else (zeroJ, false)) := fun j hj =>
      f62_fin (9980 + 20) c 14 0 [j] (Jd.mk true j.v j.u j.a j.i) j.eq (by omega) hB (by rw [BIG_eq]; simp) (by simp) (fun q hq => by simp at hq; subst hq; exact hj) (fun _ => by rw [f116_al _ _ _ _ _ (by omega) (by omega), f145_14]) (by unfold jsz at hj ⊢; show j.v.size + j.u.size + j.a.size < _ ∧ j.v.size + j.u.size + j.a.size ≤ _; omega)
    rw [if_neg (by simp), e14 J hJ, Option.bind_some]
    by_cases hg : (ofOk c 14 [J] && (J.eq && decide (J.i ≤ 1000))) = true
    case neg =>
      rw [if_neg hg, if_pos (show (!false) = true from rfl), w61_true, Option.bind_some]
    rw [if_pos hg]
    simp only [Bool.and_eq_true, decide_eq_true_eq] at hg
    obtain ⟨ho, he, hi⟩ := hg
    obtain ⟨hc, _, hp⟩ := ofOk_of ho
    have hin : ∀ i : Nat, rinner 14 (i : Nat) = false := fun i => inner_none (.inl rfl) _
    have hin' : ∀ i : Nat, rinner 15 (i : Nat) = false := fun i => inner_none (.inr (.inl rfl)) _
    have hr := (premOk_none hin _ _).1 hp J (by simp)
    obtain ⟨pu, pv, pa, pl⟩ := rightJ_eq hr he
    have hrK : rightJ (c.length : Int) (Jd.mk true J.v J.u J.a J.i) = true := by
      unfold rightJ
      show (lev J.i && (pf _ J.v && (pf _ J.a && (if true = true then pf _ J.u else isZ J.u)))) = true
      rw [pl, pu, pv, pa]; rfl
    have ho2 : ofOk c 14 [Jd.mk true J.v J.u J.a J.i] = true := by
      unfold ofOk
      rw [hc, (premOk_none hin _ _).2 (fun j hj => by simp at hj; subst hj; exact hrK)]
      rfl
    have ho3 : ofOk c 15 [J, Jd.mk true J.v J.u J.a J.i] = true := by
      unfold ofOk
      rw [hc, (premOk_none hin' _ _).2 (fun j hj => by
        simp at hj
        rcases hj with rfl | rfl
        · exact hr
        · exact hrK)]
      rfl
    have eK := e14 (Jd.mk true J.v J.u J.a J.i) hK
    rw [if_pos (show (ofOk c 14 [Jd.mk true J.v J.u J.a J.i] && (true && decide (J.i ≤ 1000))) = true by rw [ho2, decide_eq_true hi]; rfl)] at eK
    have eJ : Jd.mk true J.u J.v J.a J.i = J := by rw [← he, Jd.eta]
    have eK' : f62 (9980 + 20) c 14 0 [Jd.mk true J.v J.u J.a J.i] = some (J, true) := by rw [eK]; show some (Jd.mk true J.u J.v J.a J.i, true) = _; rw [eJ]
    have hb2 : (J.eq && (hasB (Jd.mk true J.v J.u J.a J.i) true J.a J.i && J.v.same J.v)) = true := by
      unfold hasB
      show (J.eq && ((true == true && (decide (J.i = J.i) && J.a.same J.a)) && J.v.same J.v)) = true
      rw [he, (Tm.same_iff J.a J.a).2 rfl, (Tm.same_iff J.v J.v).2 rfl]
      simp
    have e5 : f62 (9980 + 20) c 15 0 [J, Jd.mk true J.v J.u J.a J.i] = some (Jd.mk true J.u J.u J.a J.i, true) := by
      rw [f62_fin (9980 + 20) c 15 0 [J, Jd.mk true J.v J.u J.a J.i] (Jd.mk true J.u J.u J.a J.i) true (by omega) hB (by rw [BIG_eq]; simp) (by simp) (fun q hq => by
        simp at hq
        rcases hq with rfl | rfl
        · exact hJ
        · exact hK) (fun _ => by
          rw [f116_al _ _ _ _ _ (by omega) (by omega), f145_15 _ _ _ hJ hK]
          show some (Jd.mk true J.u J.u J.a J.i, J.eq && (hasB (Jd.mk true J.v J.u J.a J.i) true J.a J.i && J.v.same J.v)) = _
          rw [hb2]) (by unfold jsz at hJ ⊢; show J.u.size + J.u.size + J.a.size < _ ∧ J.u.size + J.u.size + J.a.size ≤ _; rw [BIG_eq]; omega), ho3]
      rw [if_pos (show (true && (true && decide (J.i ≤ 1000))) = true by rw [decide_eq_true hi]; rfl)]
    rw [if_neg (by simp), eK', e5, Option.bind_some, Option.bind_some, if_pos rfl, f56_ok _ J J (by omega) (by rw [BIG_eq]; omega), sameJ_refl, Option.bind_some, if_pos rfl, if_pos rfl]
    show ((f23 (9980 + 20) J.u J.u).bind fun x7 => if x7 = true then (f23 (9980 + 20) J.u J.u).bind fun x8 => if x8 = true then (f23 (9980 + 20) J.a J.a).bind fun x9 => if x9 = true then if decide (J.i = J.i) = true then if true = true then (f61 (9980 + 20)).bind fun x10 => some x10 else some false else some false else some false else some false else some false) = some true
    rw [f23_ok _ _ _ (by omega) (by rw [BIG_eq]; omega), (Tm.same_iff J.u J.u).2 rfl, Option.bind_some, if_pos rfl, Option.bind_some, if_pos rfl, f23_ok _ _ _ (by omega) (by rw [BIG_eq]; omega), (Tm.same_iff J.a J.a).2 rfl, Option.bind_some, if_pos rfl, if_pos (by simp), if_pos rfl, w61_true, Option.bind_some])
end Go.Proofs.Ytcaahmielncmpaa
