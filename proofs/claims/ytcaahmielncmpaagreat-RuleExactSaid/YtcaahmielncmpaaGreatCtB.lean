/-
  Plain facts on what the functions compute.
-/
import Derived.Test.YtcaahmielncmpaaGreatCtA
set_option linter.unusedSimpArgs false
set_option linter.unusedVariables false
namespace Go.Proofs.YtcaahmielncmpaaGreat
open Go

/-! ## Judgments that are looked at, and their copies -/
theorem l53_ok (n : Nat) (c : List Jd) (most : Int) (h0 : 0 ≤ most) (h1 : most ≤ 1000000) (hn : most + 1000 < n) (hl : c.length ≤ BIG) : ∀ (rest pre : List Jd) (acc : Int) (m : Nat), c = pre ++ rest → rest.length < m → 0 ≤ acc → acc ≤ most + 1 →
    ∃ b, l27_1 n m c most acc (pre.length : Int) = some b ∧ (b = false → acc + (jsize rest : Int) ≤ most) := by
  intro rest
  induction rest with
  | nil =>
    intro pre acc m hk hm ha0 ha
    obtain ⟨m, rfl⟩ := fuel hm
    simp only [l27_1, o27_1, decide_eq_true_eq, ifB_eq]
    rw [if_neg (ge_at hk)]
    refine ⟨_, rfl, fun h => ?_⟩
    simp only [decide_eq_false_iff_not] at h
    simp only [jsize]; omega
  | cons x rest ih =>
    intro pre acc m hk hm ha0 ha
    obtain ⟨m, rfl⟩ := fuel hm
    simp only [List.length_cons] at hm
    have hp : pre.length ≤ BIG := by rw [hk] at hl; simp at hl; omega
    simp only [l27_1, o27_1, c27_2, o27_2, c27_3, o27_3, decide_eq_true_eq, ifB_eq]
    rw [if_pos (lt_at hk)]
    by_cases hle : acc ≤ most
    · have hw := size_weigh_bound x.u (m := most - acc) (by omega)
      rw [if_pos hle, atI_at hk, ckI_eq (by omega), f55_ok n x.u (most - acc) 200 (by omega) (by omega) (by omega) (by omega) (by omega), Option.bind_some, ckI_eq (by omega)]
      have hsu := fun h => weigh_le (t := x.u) (m := most - acc) (by omega) h
      generalize hwu : x.u.weigh (most - acc) 200 = wu at *
      have tail : ∀ (acc2 : Int) (L : Int), 0 ≤ acc2 → acc2 ≤ most + 1 → (acc2 ≤ most → acc2 = acc + L) → 0 ≤ L →
          ∃ b, (if acc2 ≤ most then atI c (pre.length : Int) fun x5 => ckI (most - acc2) <| (f55 n x5.a (most - acc2) 200).bind fun x6 => ckI (acc2 + x6) <| ckI ((pre.length : Int) + 1) <| l27_1 n m c most (acc2 + x6) ((pre.length : Int) + 1)
            else ckI ((pre.length : Int) + 1) <| l27_1 n m c most acc2 ((pre.length : Int) + 1)) = some b ∧ (b = false → acc + L + (x.a.size : Int) + (jsize rest : Int) ≤ most) := by
        intro acc2 L q0 q1 q2 q3
        by_cases hle2 : acc2 ≤ most
        · have hw2 := size_weigh_bound x.a (m := most - acc2) (by omega)
          rw [if_pos hle2, atI_at hk, ckI_eq (by omega), f55_ok n x.a (most - acc2) 200 (by omega) (by omega) (by omega) (by omega) (by omega), Option.bind_some, ckI_eq (by omega), ckI_eq (idx_ok hp)]
          obtain ⟨b, hb, hq⟩ := ih (pre ++ [x]) (acc2 + x.a.weigh (most - acc2) 200) m (next_at hk) (by omega) (by omega) (by omega)
          rw [len_snoc] at hb
          refine ⟨b, hb, fun h => ?_⟩
          have := hq h
          have hs := weigh_le (t := x.a) (m := most - acc2) (by omega) (by have := Int.natCast_nonneg (jsize rest); omega)
          have := q2 hle2
          omega
        · rw [if_neg hle2, ckI_eq (idx_ok hp)]
          obtain ⟨b, hb, hq⟩ := ih (pre ++ [x]) acc2 m (next_at hk) (by omega) (by omega) (by omega)
          rw [len_snoc] at hb
          refine ⟨b, hb, fun h => ?_⟩
          have := hq h
          have := Int.natCast_nonneg (jsize rest)
          omega
      by_cases hle2 : acc + wu ≤ most
      · have hw2 := size_weigh_bound x.v (m := most - (acc + wu)) (by omega)
        rw [if_pos hle2, atI_at hk, ckI_eq (by omega), f55_ok n x.v (most - (acc + wu)) 200 (by omega) (by omega) (by omega) (by omega) (by omega), Option.bind_some, ckI_eq (by omega)]
        have hsv := fun h => weigh_le (t := x.v) (m := most - (acc + wu)) (by omega) h
        generalize hwv : x.v.weigh (most - (acc + wu)) 200 = wv at *
        obtain ⟨b, hb, hq⟩ := tail (acc + wu + wv) ((x.u.size : Int) + x.v.size) (by omega) (by omega) (fun h => by
          have := hsu (by omega); have := hsv (by omega); omega) (by omega)
        refine ⟨b, hb, fun h => ?_⟩
        have := hq h
        simp only [jsize]
        push_cast
        omega
      · rw [if_neg hle2]
        obtain ⟨b, hb, hq⟩ := tail (acc + wu) ((x.u.size : Int) + x.v.size) (by omega) (by omega) (fun h => (hle2 h).elim) (by omega)
        refine ⟨b, hb, fun h => ?_⟩
        have := hq h
        simp only [jsize]
        push_cast
        omega
    · rw [if_neg hle]
      refine ⟨_, rfl, fun h => ?_⟩
      simp only [decide_eq_false_iff_not] at h
      omega
theorem f27_ok (n : Nat) (c : List Jd) (most : Int) (h0 : 0 ≤ most) (h1 : most ≤ 1000000) (hn : most + 1000 < n) : ∃ b, f27 n c most = some b ∧ (b = false → (jsize c : Int) ≤ most) := by
  simp only [f27, o27_0, decide_eq_true_eq, ifB_eq]
  by_cases h : most < (c.length : Int)
  · rw [if_pos h]; exact ⟨true, rfl, fun h => by cases h⟩
  rw [if_neg h]
  obtain ⟨b, hb, hq⟩ := l53_ok n c most h0 h1 hn (by rw [BIG_eq]; omega) c [] 0 n rfl (by omega) (by omega) (by omega)
  rw [len_nil] at hb
  exact ⟨b, hb, fun h => by have := hq h; omega⟩

theorem jd_eta (e : Bool) (u v a : Tm) (i : Int) : Jd.mk e (Tm.mk u.kind u.i u.j u.n u.kids) (Tm.mk v.kind v.i v.j v.n v.kids) (Tm.mk a.kind a.i a.j a.n a.kids) i = Jd.mk e u v a i := by simp only [Tm.eta]
theorem room184 {n : Nat} (h : n ≤ BIG / 2) : (decide ((n + 1) * 184 ≤ 140737488355328) && decide (n + 1 ≤ 9223372036854775807)) = true := by
  rw [BIG_eq] at h
  simp only [Bool.and_eq_true, decide_eq_true_eq]; omega
theorem l57_ok (n : Nat) (c : List Jd) (hl : c.length ≤ BIG / 2) : ∀ (rest pre : List Jd) (m : Nat), c = pre ++ rest → rest.length < m → (∀ e ∈ rest, 2 * (e.u.size + e.v.size + e.a.size) < n ∧ e.u.size + e.v.size + e.a.size ≤ BIG) →
    l8_1 n m c pre (pre.length : Int) = some c := by
  intro rest
  induction rest with
  | nil =>
    intro pre m hk hm _
    obtain ⟨m, rfl⟩ := fuel hm
    simp only [l8_1, o8_1, decide_eq_true_eq, ifB_eq]
    rw [if_neg (ge_at hk)]
    rw [hk]; simp
  | cons x rest ih =>
    intro pre m hk hm hs
    obtain ⟨m, rfl⟩ := fuel hm
    simp only [List.length_cons] at hm
    have hp : pre.length ≤ BIG / 2 := by rw [hk] at hl; simp at hl; omega
    have hp' : pre.length ≤ BIG := by rw [BIG_eq] at hp ⊢; omega
    obtain ⟨hx1, hx2⟩ := hs x (by simp)
    simp only [l8_1, o8_1, decide_eq_true_eq, atI_at hk, ifB_eq]
    rw [if_pos (lt_at hk), f28_ok n x.u (by omega) (by omega), Option.bind_some, f28_ok n x.v (by omega) (by omega), Option.bind_some, f28_ok n x.a (by omega) (by omega), Option.bind_some, ckB_eq (by simpa using room184 hp), ckI_eq (idx_ok hp'), jd_eta, Jd.eta]
    have := ih (pre ++ [x]) m (next_at hk) (by omega) (fun e he => hs e (by simp [he]))
    rw [len_snoc] at this
    exact this
theorem f8_ok (n : Nat) (c : List Jd) (hn : 2 * jsize c < n) (hb : jsize c ≤ BIG / 2) : f8 n c = some c := by
  have hl := jsize_len c
  have hb' : jsize c ≤ BIG := by rw [BIG_eq] at hb ⊢; omega
  have := l57_ok n c (by omega) c [] n rfl (by omega) (fun e he => by have := jsize_mem he; omega)
  rw [len_nil] at this
  simp only [f8, o8_0, ifB_eq]
  exact this
end Go.Proofs.YtcaahmielncmpaaGreat
