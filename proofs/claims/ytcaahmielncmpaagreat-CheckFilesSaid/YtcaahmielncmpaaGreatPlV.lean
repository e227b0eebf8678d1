/-
  Plain facts on what the functions compute.
-/
import Derived.Test.YtcaahmielncmpaaGreatPlU
set_option linter.unusedSimpArgs false
set_option linter.unusedVariables false
namespace Go.Proofs.YtcaahmielncmpaaGreat
open Go
/-! ## The document's put -/
theorem f130_step (v : Tm) (M : Nat) (hv : v.right = true ∧ v.size ≤ M) (hMB : M ≤ BIG) (n : Nat) (t : Tm) (d : Int) (p p' : Bool) (h : t.size + M + 5 < n + 1) (hb : t.size ≤ BIG) (hr : t.right = true) (hd0 : 0 ≤ d) (hd : d + 2 * t.size ≤ 1000000000)
    (hpp : t.kind = 2 → p = p') (ih : ∀ (i : Nat) x, t.kids[i]? = some x → f130 n x v (d + tbinds t.kind i) (if p = true then true else md t.kind i) = some (out2 (Tm.subO [v] ([v].map Tm.strip) true (d + tbinds t.kind i) (mode p' t.kind i) x))) :
    f130 (n + 1) t v d p = some (out2 (Tm.subO [v] ([v].map Tm.strip) true d p' t)) := by
  have hBig := BIG_eq
  have hl := Tm.len_kids t
  simp only [f130, o130_0, ifB_eq]
  rw [Tm.subO_eq]
  by_cases hk : t.kind = 2
  · obtain ⟨v1, v2, v3, v4, v5⟩ := Tm.right_var hr hk
    rw [if_pos (by simpa using hk)]
    simp only [decide_eq_true_eq]
    by_cases h0 : t.i = d
    · rw [if_pos h0, f139_ok n v d p hv.1 (by omega) (by omega) hd0 (by omega), if_pos (show t.kind = 2 ∧ d ≤ t.i from ⟨hk, by omega⟩), ← hpp hk]
      unfold Tm.pick
      rw [if_neg (show ¬ (([v].length : Nat) : Int) ≤ t.i - d by simp; omega), show (t.i - d).toNat = 0 by omega]
      cases p <;> rfl
    · rw [if_neg h0]
      by_cases h1 : d < t.i
      · rw [if_pos h1, ckI_eq (by omega), if_pos ⟨hk, by omega⟩]
        unfold Tm.pick
        rw [if_pos (show (([v].length : Nat) : Int) ≤ t.i - d by simp; omega), if_pos rfl]
        simp only [out2, List.length_singleton]
        rw [show t.i - d - ((1 : Nat) : Int) + d = t.i - 1 by omega]
      · rw [if_neg h1, if_neg (by omega), v5]
        simp only [kidsM, out2]
        have := Tm.eta t
        rw [v5] at this
        rw [this]
  · rw [if_neg (by simpa using hk), if_neg (fun h => hk h.1)]
    have := app_ok (L := fun m l i => l130_1 (f130 n) n m d p t v 0 0 0 0 t.kind t.i t.j t.n l i) (ks := t.kids)
      (B := fun i x c => (f127 t.kind i).bind fun b => ckI (d + b) <| if p then (f130 n x v (d + b) true).bind fun r => if (!r.2) then some (Tm.mk 0 0 0 0 [], false) else c (Tm.mk r.1.kind r.1.i r.1.j r.1.n r.1.kids)
        else (f140 t i).bind fun q => (f130 n x v (d + b) q).bind fun r => if (!r.2) then some (Tm.mk 0 0 0 0 [], false) else c (Tm.mk r.1.kind r.1.i r.1.j r.1.n r.1.kids))
      (fin := fun l => some (Tm.mk t.kind t.i t.j t.n l, true)) (r0 := some (tzero, false)) (go := fun i x => Tm.subO [v] ([v].map Tm.strip) true (d + tbinds t.kind i) (mode p' t.kind i) x)
      (fun m l i => by simp only [l130_1, o130_1, c130_2, o130_2, ifB_eq]) (by omega) t.kids [] [] n rfl rfl (by omega) (fun i x c hi _ => by
        have hx := mem_of_get hi
        have hxs := Tm.size_kid hx
        have hbr := tbinds_range t.kind (i : Int)
        have ihx := ih i x hi
        simp only [f127_eq, f140_eq, Option.bind_some]
        rw [ckI_eq (by omega)]
        have e : ∀ q, q = (if p = true then true else md t.kind i) → ((f130 n x v (d + tbinds t.kind i) q).bind fun r => if (!r.2) = true then some (Tm.mk 0 0 0 0 [], false) else c (Tm.mk r.1.kind r.1.i r.1.j r.1.n r.1.kids)) = match Tm.subO [v] ([v].map Tm.strip) true (d + tbinds t.kind i) (mode p' t.kind i) x with
            | some y => c y
            | none => some (tzero, false) := by
          intro q hq
          rw [hq, ihx, Option.bind_some]
          cases Tm.subO [v] ([v].map Tm.strip) true (d + tbinds t.kind i) (mode p' t.kind i) x with
          | none => rfl
          | some y => simp [out2, Tm.eta]
        cases p with
        | true => rw [if_pos rfl]; exact e _ rfl
        | false => rw [if_neg (by simp)]; exact e _ rfl)
    rw [len_nil] at this
    refine Eq.trans this ?_
    cases kidsM (fun i x => Tm.subO [v] ([v].map Tm.strip) true (d + tbinds t.kind i) (mode p' t.kind i) x) 0 t.kids <;> rfl
theorem f130_true (v : Tm) (M : Nat) (hv : v.right = true ∧ v.size ≤ M) (hMB : M ≤ BIG) : ∀ (n : Nat) (t : Tm) (d : Int), t.size + M + 5 < n → t.size ≤ BIG → t.right = true → 0 ≤ d → d + 2 * t.size ≤ 1000000000 →
    f130 n t v d true = some (out2 (Tm.subO [v] ([v].map Tm.strip) true d true t))
  | 0, t, d, h, _, _, _, _ => by omega
  | n + 1, t, d, h, hb, hr, hd0, hd => by
    refine f130_step v M hv hMB n t d true true h hb hr hd0 hd (fun _ => rfl) (fun i x hi => ?_)
    have hx := mem_of_get hi
    have hxs := Tm.size_kid hx
    have hbr := tbinds_range t.kind (i : Int)
    have ih := f130_true v M hv hMB n x (d + tbinds t.kind i) (by omega) (by omega) (Tm.right_kid hr hx) (by omega) (by omega)
    exact ih
theorem f130_false (v : Tm) (M : Nat) (hv : v.right = true ∧ v.size ≤ M) (hMB : M ≤ BIG) : ∀ (n : Nat) (t : Tm) (d : Int), t.size + M + 5 < n → t.size ≤ BIG → t.marked = true → 0 ≤ d → d + 2 * t.size ≤ 1000000000 →
    f130 n t v d false = some (out2 (Tm.subO [v] ([v].map Tm.strip) true d false t))
  | 0, t, d, h, _, _, _, _ => by omega
  | n + 1, t, d, h, hb, hm, hd0, hd => by
    have hr := right_m hm
    refine f130_step v M hv hMB n t d false false h hb hr hd0 hd (fun _ => rfl) (fun i x hi => ?_)
    have hx := mem_of_get hi
    have hxs := Tm.size_kid hx
    have hbr := tbinds_range t.kind (i : Int)
    have hkm := marked_kind hm
    rw [Tm.marked_eq] at hm
    simp only [Bool.and_eq_true] at hm
    have hxm := markeds_get hm.2.2 hi
    rw [Nat.zero_add] at hxm
    by_cases h12 : t.kind = 12 ∧ i = 2
    · have e1 : md t.kind i = true := by simp [md, h12.1, h12.2]
      have e2 : mode false t.kind i = true := by simp [mode, h12.1, h12.2]
      rw [if_neg (by simp), e1, e2]
      exact f130_true v M hv hMB n x _ (by omega) (by omega) (Tm.right_kid hr hx) (by omega) (by omega)
    · rw [if_neg h12] at hxm
      have e1 : md t.kind i = false := by simp only [md, Bool.or_eq_false_iff, Bool.and_eq_false_iff, decide_eq_false_iff_not]; omega
      have e2 : mode false t.kind i = false := by simp only [mode, Bool.false_or, Bool.and_eq_false_iff, decide_eq_false_iff_not]; omega
      rw [if_neg (by simp), e1, e2]
      exact f130_false v M hv hMB n x _ (by omega) (by omega) hxm (by omega) (by omega)
theorem f130_top (v : Tm) (M : Nat) (hv : v.right = true ∧ v.size ≤ M) (hMB : M ≤ BIG) (n : Nat) (t : Tm) (h : t.size + M + 5 < n) (hb : t.size ≤ 1000) (hr : t.right = true) :
    f130 n t v 0 false = some (out2 (Tm.subO [v] ([v].map Tm.strip) true 0 (decide (13 ≤ t.kind)) t)) := by
  have hBig := BIG_eq
  by_cases hm : t.marked = true
  · have := marked_kind hm
    rw [decide_eq_false (by omega)]
    exact f130_false v M hv hMB n t 0 h (by omega) hm (by omega) (by omega)
  · have h13 : 13 ≤ t.kind := by
      have hr' := hr
      unfold Tm.right at hr'
      rcases Bool.or_eq_true_iff.1 hr' with h | h
      · exact absurd h hm
      · rcases plain_kind' h with h | h | h
        · exact absurd (low_marked hr (.inl h)) hm
        · exact absurd (low_marked hr (.inr h)) hm
        · exact h
    rw [decide_eq_true h13]
    obtain ⟨n, rfl⟩ : ∃ m, n = m + 1 := ⟨n - 1, by omega⟩
    refine f130_step v M hv hMB n t 0 false true h (by omega) hr (by omega) (by omega) (fun h => by omega) (fun i x hi => ?_)
    have hx := mem_of_get hi
    have hxs := Tm.size_kid hx
    have hbr := tbinds_range t.kind (i : Int)
    have e1 : md t.kind i = true := by simp only [md, Bool.or_eq_true, decide_eq_true_eq]; left; omega
    rw [if_neg (by simp), e1]
    exact f130_true v M hv hMB n x _ (by omega) (by omega) (Tm.right_kid hr hx) (by omega) (by omega)
/-- The document's put is the program's. -/
theorem f113_ok (n : Nat) (t v : Tm) (hs : t.size + v.size + 5 < n) (hts : t.size ≤ 1000) (hb : v.size ≤ BIG) : f113 n t v = some (t.putZ v) := by
  have hBig := BIG_eq
  simp only [f113, o113_0, ifB_eq]
  rw [f108_ok n t (by omega) (by omega), Option.bind_some]
  unfold Tm.putZ
  cases hr : t.right with
  | false => rfl
  | true =>
    rw [if_neg (by simp), f129_ok n t v (by omega) (by omega) (by omega) hb hr, Option.bind_some, if_pos rfl]
    unfold Tm.suball
    cases hk : okv t v with
    | false => simp [hk, tzero]
    | true =>
      have hvr : v.right = true := by unfold okv at hk; simp only [Bool.and_eq_true] at hk; exact hk.1
      rw [if_neg (by simp), if_pos (by simpa using hk)]
      simp only [c113_1, o113_1, ifB_eq]
      rw [f130_top v v.size ⟨hvr, Nat.le_refl _⟩ hb n t (by omega) hts hr, Option.bind_some]
      cases Tm.subO [v] ([v].map Tm.strip) true 0 (decide (13 ≤ t.kind)) t <;> rfl
end Go.Proofs.YtcaahmielncmpaaGreat
