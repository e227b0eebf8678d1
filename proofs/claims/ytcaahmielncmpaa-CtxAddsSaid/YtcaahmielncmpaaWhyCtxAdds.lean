/-
  The statement returns true.
-/
import Derived.Test.YtcaahmielncmpaaRuB
import Derived.Test.YtcaahmielncmpaaGenCtxAdds
set_option linter.unusedSimpArgs false
set_option linter.unusedVariables false
namespace Go.Proofs.Ytcaahmielncmpaa
open Go
theorem w43_true (m : Nat) : f43 (m + 20) = some true := by kernel_rfl
theorem rightC_append : ∀ (c : List Ent) (k : Nat) (e : Ent), rightC k (c ++ [e]) = (rightC k c && (lev e.i && (e.a.marked && decide (e.a.free ≤ ((k + c.length : Nat) : Int)))))
  | [], k, e => by simp [rightC]
  | x :: c, k, e => by
    simp only [List.cons_append, rightC, rightC_append c (k + 1) e, List.length_cons]
    rw [show k + 1 + c.length = k + (c.length + 1) by omega]
    simp only [Bool.and_assoc]
theorem o9_3_ok (n : Nat) (c : List Ent) (t : Tm) (lv k : Int) (b : Bool) (hn : n = 9980 + 20) (hc : csize c ≤ 300) (ht : t.size ≤ 300)
    (hb : b = false → rightC 0 c = true ∧ t.marked = true ∧ t.free ≤ (c.length : Int) ∧ 0 ≤ lv ∧ lv ≤ 1000 ∧ 0 ≤ k ∧ k < (c.length : Int)) : c9_3 n c lv k t (c ++ [Ent.mk t lv]) b = some true := by
  have hBig := BIG_eq
  have hcl := csize_len c
  have hd : csize (c ++ [Ent.mk t lv]) ≤ 600 := by rw [csize_append]; simp only [csize]; omega
  have w : f43 n = some true := by rw [hn]; exact w43_true 9980
  unfold c9_3 o9_3
  simp only [ifB_eq, decide_eq_true_eq]
  cases b with
  | true =>
    rw [if_pos rfl, f41_ok n _ (by omega) (by omega), f42_ok n _ (by omega) (by omega), Option.bind_some, Option.bind_some, beq_self_eq_true, if_pos rfl, w, Option.bind_some]
  | false =>
    obtain ⟨h1, h2, h3, h4, h5, h6, h7⟩ := hb rfl
    have hlv : lev lv = true := by unfold lev; rw [decide_eq_true h4, decide_eq_true h5]; rfl
    have hrd : rightC 0 (c ++ [Ent.mk t lv]) = true := by
      rw [rightC_append, h1, Bool.true_and]
      show (lev lv && (t.marked && decide (t.free ≤ ((0 + c.length : Nat) : Int)))) = true
      rw [hlv, h2, decide_eq_true (by omega)]; rfl
    have hlen : ((c ++ [Ent.mk t lv]).length : Int) = (c.length : Int) + 1 := by simp
    have hlt : ((c.length : Int) - 1 - k).toNat < c.length := by omega
    have hget := List.getElem?_eq_getElem hlt
    have hgr := rightC_get h1 hget
    have hsz := csize_mem (List.mem_of_getElem? hget)
    generalize c[((c.length : Int) - 1 - k).toNat] = e at *
    have a1 : atC c k = (Tm.liftZ (k + 1) 0 e.a, e.i, true) := by
      unfold atC
      rw [if_neg (by simp [h1]; omega), hget]
    have a2 : atC (c ++ [Ent.mk t lv]) (k + 1) = (Tm.liftZ (k + 1 + 1) 0 e.a, e.i, true) := by
      unfold atC
      rw [if_neg (by rw [hlen]; simp [hrd]; omega), show (((c ++ [Ent.mk t lv]).length : Int) - 1 - (k + 1)).toNat = ((c.length : Int) - 1 - k).toNat by rw [hlen]; omega, List.getElem?_append_left hlt, hget]
    have a0 : atC (c ++ [Ent.mk t lv]) 0 = (Tm.liftZ (0 + 1) 0 t, lv, true) := by
      unfold atC
      rw [if_neg (by rw [hlen]; simp [hrd]), show (((c ++ [Ent.mk t lv]).length : Int) - 1 - 0).toNat = c.length by rw [hlen]; omega]
      simp
    have hem := hgr.2.1
    have hef : e.a.free ≤ 300 := by have := hgr.2.2; omega
    have hd1 := Tm.deep_size e.a
    have hroom2 : e.a.room (k + 1 + 1) := by unfold Tm.room; omega
    have hroom1 : e.a.room (k + 1) := by unfold Tm.room; omega
    have l1 : Tm.liftZ (k + 1) 0 e.a = Tm.up (k + 1) 0 e.a := liftZ_up (k + 1) 0 e.a (by omega) (by omega) (marked_right hem) hroom1
    have l2 : Tm.liftZ (k + 1 + 1) 0 e.a = Tm.up (k + 1 + 1) 0 e.a := liftZ_up (k + 1 + 1) 0 e.a (by omega) (by omega) (marked_right hem) hroom2
    have hur := Tm.up_right (f := 0) (by omega : (0 : Int) ≤ k + 1) (marked_right hem) hroom1
    have hfr := Tm.free_range e.a (marked_right hem)
    have huroom : (Tm.up (k + 1) 0 e.a).room 1 := by
      unfold Tm.room
      rw [Tm.up_free (k + 1) (by omega) 0 e.a (by omega), Tm.up_deep]
      split <;> omega
    have l3 : Tm.liftZ 1 0 (Tm.liftZ (k + 1) 0 e.a) = Tm.liftZ (k + 1 + 1) 0 e.a := by
      rw [l1, liftZ_up 1 0 _ (by omega) (by omega) hur huroom, Tm.up_up (k + 1) 1 (by omega), l2]
    have s1 : (Tm.liftZ (k + 1) 0 e.a).size ≤ 300 := by rw [l1, Tm.up_size]; omega
    have s2 : (Tm.liftZ (k + 1 + 1) 0 e.a).size ≤ 300 := by rw [l2, Tm.up_size]; omega
    have s3 : (Tm.liftZ (0 + 1) 0 t).size ≤ 300 := by
      have hdt := Tm.deep_size t
      rw [liftZ_up (0 + 1) 0 t (by omega) (by omega) (marked_right h2) (by unfold Tm.room; omega), Tm.up_size]; omega
    rw [if_neg (by simp), f39_ok n _ 0 (by omega) (by omega), a0, Option.bind_some, ckI_eq (by omega), f39_ok n _ (k + 1) (by omega) (by omega), a2, Option.bind_some, f39_ok n c k (by omega) (by omega), a1, Option.bind_some]
    rw [if_pos rfl, if_pos rfl, if_pos rfl, if_pos rfl, if_pos rfl, f32_ok n t 1 0 (by omega) (by omega) (by omega) (by omega), Option.bind_some]
    show (f23 n (Tm.liftZ (0 + 1) 0 t) (Tm.liftZ 1 0 t)).bind _ = _
    rw [f23_ok n _ _ (by omega) (by omega)]
    rw [show (0 : Int) + 1 = 1 from rfl, Tm.same_refl, Option.bind_some, if_pos rfl]
    show (f32 n (Tm.liftZ (k + 1) 0 e.a) 1 0).bind _ = _
    rw [f32_ok n _ 1 0 (by omega) (by omega) (by omega) (by omega), l3, Option.bind_some]
    show (f23 n (Tm.liftZ (k + 1 + 1) 0 e.a) (Tm.liftZ (k + 1 + 1) 0 e.a)).bind _ = _
    rw [f23_ok n _ _ (by omega) (by omega), Tm.same_refl, Option.bind_some, if_pos rfl, w, Option.bind_some]
theorem ctxAdds_c (c : List Ent) (t : Tm) (lv k : Int) : ACalls Try.prog 9 [.one (.slice (c.map entC)), .agg t.cells, .one (.int lv), .one (.int k)] (.v (.one (.bool true))) true :=
  (ok9 (9980 + 20)).2 (c, t, lv, k, ()) true (by
    show f9 (9980 + 20) c t lv k = some true
    have hBig := BIG_eq
    simp only [f9, o9_0, ifB_eq]
    refine ctx_small (by omega) (by omega) (by omega) fun hc => ?_
    rw [f19_ok _ t 300 (by omega) (by omega) (by omega), Option.bind_some]
    by_cases h : (300 : Int) < t.weigh 300 200
    · rw [if_pos (by simpa using h)]
    rw [if_neg (by simpa using h)]
    have ht := Tm.great_size (by omega) h
    have hcl := csize_len c
    have hc' : csize c ≤ 300 := by omega
    unfold c9_1 o9_1
    simp only [ifB_eq, decide_eq_true_eq]
    rw [f44_ok _ c (by omega) (by omega), Option.bind_some, ckB_eq (by simpa using room64 (show c.length ≤ BIG by omega)), ckB_eq (by simp; omega)]
    have e1 : (((c ++ [Ent.mk (Tm.mk 0 0 0 0 []) (-9)]).take (c.length : Int).toNat).drop (0 : Int).toNat) = c := by
      rw [Int.toNat_natCast, List.take_left' rfl]; rfl
    have hat : ∀ (y : Ent) (K : Ent → Option Bool), atI (c ++ [y]) (c.length : Int) K = K y := fun y K => atI_eq (x := y) (by omega) (by rw [Int.toNat_natCast]; simp)
    have hatN : ∀ (y : Ent) (K : Ent → Option Bool), atN (c ++ [y]) (c.length : Int).toNat K = K y := fun y K => by
      unfold atN
      rw [Int.toNat_natCast]
      simp
    have e2 : (((c ++ [Ent.mk t lv]).take (c.length : Int).toNat).drop (0 : Int).toNat) = c := by
      rw [Int.toNat_natCast, List.take_left' rfl]; rfl
    rw [e1, f51_ok' _ c t lv (by omega) (by omega) (by omega) (by omega), Option.bind_some, ckI_eq (by omega), if_neg (by simp), ckB_eq (by simp; omega), e2, f47_ok _ c c (by omega) (by omega), sameC_refl, Option.bind_some, if_neg (by simp),
      hat, f23_ok _ _ _ (by show 2 * t.size < _; omega) (by show t.size ≤ _; omega), Tm.same_refl, Option.bind_some, if_neg (by simp), hat, if_neg (by simp), ckI_eq (by omega), ckB_eq (by simp; omega), ckB_eq (by simp; omega), hatN, if_neg (by simp)]
    unfold c9_2 o9_2
    simp only [ifB_eq, decide_eq_true_eq]
    have tru : ∀ b, b = true → c9_3 (9980 + 20) c lv k t (c ++ [Ent.mk t lv]) b = some true := fun b hb => o9_3_ok _ c t lv k b rfl hc' (by omega) (fun h => by rw [hb] at h; cases h)
    rw [f42_ok _ c (by omega) (by omega), Option.bind_some]
    cases hr : rightC 0 c with
    | false => rw [if_pos (by simp)]; exact tru _ rfl
    | true =>
    rw [if_neg (by simp), f25_ok _ t (by omega) (by omega), Option.bind_some]
    cases hm : t.marked with
    | false => rw [if_pos (by simp)]; exact tru _ rfl
    | true =>
    rw [if_neg (by simp), f52_ok _ t (by omega) (by omega), if_pos (marked_right hm), Option.bind_some]
    by_cases h1 : (c.length : Int) < t.free
    · rw [if_pos h1]; exact tru _ rfl
    rw [if_neg h1]
    by_cases h2 : lv < 0
    · rw [if_pos h2]; exact tru _ rfl
    rw [if_neg h2]
    by_cases h3 : 1000 < lv
    · rw [if_pos h3]; exact tru _ rfl
    rw [if_neg h3]
    by_cases h4 : k < 0
    · rw [if_pos h4]; exact tru _ rfl
    rw [if_neg h4]
    by_cases h5 : (c.length : Int) ≤ k
    · rw [decide_eq_true h5]; exact tru _ rfl
    rw [decide_eq_false h5]
    exact o9_3_ok _ c t lv k false rfl hc' (by omega) (fun _ => ⟨hr, hm, by omega, by omega, by omega, by omega, by omega⟩))
end Go.Proofs.Ytcaahmielncmpaa
