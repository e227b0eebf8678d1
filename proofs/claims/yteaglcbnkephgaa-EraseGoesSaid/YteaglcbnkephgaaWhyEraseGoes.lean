/-
  The statement returns true.
-/
import Derived.Test.YteaglcbnkephgaaPlO
import Derived.Test.YteaglcbnkephgaaGenEraseGoes
set_option linter.unusedSimpArgs false
set_option linter.unusedVariables false
namespace Go.Proofs.Yteaglcbnkephgaa
open Go
theorem w73_true (m : Nat) : f73 (m + 20) = some true := by kernel_rfl
theorem eraseGoes_c (t v : Tm) (k : Int) : ACalls Try.prog 33 [.agg t.cells, .agg v.cells, .one (.int k)] (.v (.one (.bool true))) true :=
  (ok33 (999980 + 20)).2 (t, v, k, ()) true (by
    show f33 (999980 + 20) t v k = some true
    simp only [f33, o33_0]
    rw [f62_ok _ t 250 (by omega) (by omega) (by omega), f62_ok _ v 250 (by omega) (by omega) (by omega), Option.bind_some, Option.bind_some]
    simp only [decide_eq_true_eq]
    by_cases h1 : (250 : Int) < t.weigh 250 200
    · rw [if_pos h1]
    rw [if_neg h1]
    by_cases h2 : (250 : Int) < v.weigh 250 200
    · rw [if_pos h2]
    rw [if_neg h2]
    have hs := Tm.great_size (by omega) h1
    have hs2 := Tm.great_size (by omega) h2
    have hB : t.size ≤ BIG := by rw [BIG_eq]; omega
    have hB2 : v.size ≤ BIG := by rw [BIG_eq]; omega
    rw [f70_ok _ t (by omega) hB, f70_ok _ v (by omega) hB2, Option.bind_some, Option.bind_some]
    cases hm1 : t.marked with
    | false => rfl
    | true =>
    cases hm2 : v.marked with
    | false => rfl
    | true =>
    rw [if_neg (by simp), if_neg (by simp)]
    have hr1 := right_m hm1
    have hr2 := right_m hm2
    by_cases h3 : k < 0
    · rw [if_pos h3]
    rw [if_neg h3]
    by_cases h4 : 1000 < k
    · rw [if_pos h4]
    rw [if_neg h4, f82_ok _ t (by omega) hB, f82_ok _ v (by omega) hB2, Option.bind_some, Option.bind_some, if_pos hr1, if_pos hr2]
    by_cases h5 : 1000 < t.free
    · rw [if_pos h5]
    rw [if_neg h5]
    by_cases h6 : 1000 < v.free
    · rw [if_pos h6]
    rw [if_neg h6]
    have hfr := Tm.free_range t hr1
    have hfv := Tm.free_range v hr2
    have hd := Tm.deep_size t
    have hdv := Tm.deep_size v
    have hk : okv t v = true := okv_of hr2 (.inr (.inr (.inr hm2)))
    have hp := Tm.strip_plain v hm2
    have hz := Tm.strip_size v hm2
    have hsf := Tm.strip_free v hm2
    have hdz := Tm.deep_size v.strip
    have hroom : v.room (2 * t.size) := by unfold Tm.room; omega
    have hroom' : v.strip.room (2 * t.size) := by unfold Tm.room; omega
    have hsz := Tm.sb_size v 250 (by omega) (by omega) (by omega) t hr1 0 false
    have hum := Tm.sb_marked v (2 * t.size) hm2 hp hroom' hroom t hr1 0 hm1 (by omega) (by omega)
    have hkm := marked_kind hm1
    have e13 : decide (13 ≤ t.kind) = false := decide_eq_false (by omega)
    have hem1 := Tm.erase_marked' hm1
    have hem2 := Tm.erase_marked' hm2
    have hel1 := Tm.erase_le hm1
    have hel2 := Tm.erase_le hm2
    have hef1 := Tm.erase_free hm1
    have hef2 := Tm.erase_free hm2
    have hde1 := Tm.deep_size t.erase
    have hkm' := marked_kind hem1
    have e13' : decide (13 ≤ t.erase.kind) = false := decide_eq_false (by omega)
    have hrt : t.room k := by unfold Tm.room; omega
    have hrt' : t.erase.room k := by unfold Tm.room; omega
    have hup := Tm.up_size k 0 t
    have hup' := Tm.up_size k 0 t.erase
    have hupm : (Tm.up k 0 t).marked = true := by rw [(Tm.up_sort k (by omega) _ t 0 (Nat.lt_succ_self _) hr1 hrt).1, hm1]
    have hes := Tm.erase_le hum
    have hBig := BIG_eq
    simp only [c33_1, o33_1]
    rw [f67_ok _ t (by omega) hB, if_pos hm1, Option.bind_some, f67_ok _ v (by omega) hB2, if_pos hm2, Option.bind_some, f92_ok _ t k 0 (by omega) (by omega) hB, liftZ_up k 0 t (by omega) (by omega) hr1 hrt, Option.bind_some, f67_ok _ _ (by omega) (by omega), if_pos hupm, Option.bind_some, f92_ok _ _ k 0 (by omega) (by omega) (by omega), liftZ_up k 0 _ (by omega) (by omega) (right_m hem1) hrt', Option.bind_some, Tm.erase_up k t hm1, f68_ok _ _ _ (by omega) (by omega), Tm.same_refl, Option.bind_some, if_pos rfl]
    rw [f97_ok _ t v (by omega) (by omega) (by omega) (by omega), Option.bind_some, Tm.putZ_sb t v hr1 hk (by omega), e13, f67_ok _ _ (by omega) (by omega), if_pos hum, Option.bind_some, f97_ok _ t.erase v.erase (by omega) (by omega) (by omega) (by omega), Option.bind_some, Tm.putZ_sb t.erase v.erase (right_m hem1) (okv_of (right_m hem2) (.inr (.inr (.inr hem2)))) (by omega), e13', ← erase_put v t hm2 hm1 0, f68_ok _ _ _ (by omega) (by omega), Tm.same_refl, w73_true]
    rfl)
end Go.Proofs.Yteaglcbnkephgaa
