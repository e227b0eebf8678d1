/-
  The statement returns true.
-/
import Derived.Test.YteaglcbnkephgaaPlQ
import Derived.Test.YteaglcbnkephgaaGenPutTwice
set_option linter.unusedSimpArgs false
set_option linter.unusedVariables false
namespace Go.Proofs.Yteaglcbnkephgaa
open Go
theorem w98_true (m : Nat) : f98 (m + 20) = some true := by kernel_rfl
theorem f99_ok (n : Nat) (t v : Tm) (hn : 2000 < n) : ∃ b, f99 n t v = some b ∧ (b = true → t.size ≤ 120 ∧ v.size ≤ 120 ∧ t.right = true ∧ v.right = true ∧ t.free ≤ 1000 ∧ v.free ≤ 1000 ∧ (t.kind = 1 ∨ t.kind = 2 ∨ t.plain = true ∨ v.marked = true)) := by
  simp only [f99, o99_0]
  rw [f62_ok _ t 120 (by omega) (by omega) (by omega), f62_ok _ v 120 (by omega) (by omega) (by omega), Option.bind_some, Option.bind_some]
  simp only [decide_eq_true_eq]
  by_cases h1 : (120 : Int) < t.weigh 120 200
  · rw [if_pos h1]; exact ⟨_, rfl, by simp⟩
  rw [if_neg h1]
  by_cases h2 : (120 : Int) < v.weigh 120 200
  · rw [if_pos h2]; exact ⟨_, rfl, by simp⟩
  rw [if_neg h2]
  have hs := Tm.great_size (by omega) h1
  have hs2 := Tm.great_size (by omega) h2
  have hB : t.size ≤ BIG := by rw [BIG_eq]; omega
  have hB2 : v.size ≤ BIG := by rw [BIG_eq]; omega
  rw [f81_ok _ t (by omega) hB, f81_ok _ v (by omega) hB2, Option.bind_some, Option.bind_some, f82_ok _ t (by omega) hB, f82_ok _ v (by omega) hB2, Option.bind_some, Option.bind_some]
  cases hr : t.right with
  | false => exact ⟨_, rfl, by simp⟩
  | true =>
  cases hr2 : v.right with
  | false => exact ⟨_, rfl, by simp⟩
  | true =>
  rw [if_neg (by simp), if_neg (by simp), if_pos rfl, if_pos rfl]
  by_cases h3 : 1000 < t.free
  · rw [if_pos h3]; exact ⟨_, rfl, by simp⟩
  rw [if_neg h3]
  by_cases h4 : 1000 < v.free
  · rw [if_pos h4]; exact ⟨_, rfl, by simp⟩
  rw [if_neg h4]
  simp only [c99_1, o99_1, decide_eq_true_eq]
  rw [f77_ok _ t (by omega) hB, f70_ok _ v (by omega) hB2, Option.bind_some, Option.bind_some]
  have base : ∀ b : Bool, (b = true → t.kind = 1 ∨ t.kind = 2 ∨ t.plain = true ∨ v.marked = true) → ∃ b', some b = some b' ∧ (b' = true → t.size ≤ 120 ∧ v.size ≤ 120 ∧ True ∧ True ∧ t.free ≤ 1000 ∧ v.free ≤ 1000 ∧ (t.kind = 1 ∨ t.kind = 2 ∨ t.plain = true ∨ v.marked = true)) := fun b hb => ⟨b, rfl, fun h => ⟨by omega, by omega, trivial, trivial, by omega, by omega, hb h⟩⟩
  by_cases h5 : t.kind = 1
  · rw [if_pos h5]; exact base _ (fun _ => .inl h5)
  rw [if_neg h5]
  by_cases h6 : t.kind = 2
  · rw [if_pos h6]; exact base _ (fun _ => .inr (.inl h6))
  rw [if_neg h6]
  by_cases h7 : t.plain = true
  · rw [if_pos h7]; exact base _ (fun _ => .inr (.inr (.inl h7)))
  · rw [if_neg h7]; exact base _ (fun h => .inr (.inr (.inr h)))
theorem f104_ok (n : Nat) (t v : Tm) (hn : 30000 < n) (hs : t.size ≤ 20000) (hv : v.size ≤ 20000) : ∃ b, f104 n t v = some b ∧ (b = true → t.size ≤ 2000 ∧ t.right = true ∧ (t.kind = 1 ∨ t.kind = 2 ∨ t.plain = true ∨ v.marked = true)) := by
  simp only [f104, o104_0]
  have hBig := BIG_eq
  rw [f62_ok _ t 2000 (by omega) (by omega) (by omega), Option.bind_some]
  by_cases h1 : (2000 : Int) < t.weigh 2000 200
  · rw [if_neg (by simpa using h1)]; exact ⟨_, rfl, by simp⟩
  rw [if_pos (by simpa using h1)]
  have hs := Tm.great_size (by omega) h1
  rw [f81_ok _ t (by omega) (by omega), f77_ok _ t (by omega) (by omega), f70_ok _ v (by omega) (by omega), Option.bind_some, Option.bind_some, Option.bind_some]
  simp only [decide_eq_true_eq]
  have base : (t.kind = 1 ∨ t.kind = 2 ∨ t.plain = true ∨ v.marked = true) → ∃ b', some t.right = some b' ∧ (b' = true → t.size ≤ 2000 ∧ t.right = true ∧ (t.kind = 1 ∨ t.kind = 2 ∨ t.plain = true ∨ v.marked = true)) := fun hb => ⟨_, rfl, fun h => ⟨by omega, h, hb⟩⟩
  by_cases h5 : t.kind = 1
  · rw [if_pos h5]; exact base (.inl h5)
  rw [if_neg h5]
  by_cases h6 : t.kind = 2
  · rw [if_pos h6]; exact base (.inr (.inl h6))
  rw [if_neg h6]
  by_cases h7 : t.plain = true
  · rw [if_pos h7]; exact base (.inr (.inr (.inl h7)))
  rw [if_neg h7]
  by_cases h8 : v.marked = true
  · rw [if_pos h8]; exact base (.inr (.inr (.inr h8)))
  · rw [if_neg h8]; exact ⟨_, rfl, by simp⟩
theorem l31_ok (n : Nat) (t v x w : Tm) (r : Option Bool) : ∀ (q j m : Nat), j + q = 100 → q < m → (∀ m, l31_2 n (m + 1) t v x ([w, v] ++ vars 100) 100 = r) → l31_2 n m t v x ([w, v] ++ vars j) j = r := by
  intro q
  induction q with
  | zero =>
    intro j m hc hm hr
    obtain ⟨m, rfl⟩ := fuel hm
    have := hr m
    have e : j = 100 := by omega
    subst e
    exact this
  | succ q ih =>
    intro j m hc hm hr
    obtain ⟨m, rfl⟩ := fuel hm
    have := ih (j + 1) m (by omega) (by omega) hr
    rw [vars_succ, ← List.append_assoc] at this
    simp only [l31_2, o31_2, decide_eq_true_eq, f103, o103_0, Option.bind_some]
    rw [if_pos (by omega), ckB_eq (by simp [vars_length]; omega), ckI_eq (by omega)]
    exact this
theorem putTwice_c (t u v : Tm) : ACalls Try.prog 31 [.agg t.cells, .agg u.cells, .agg v.cells] (.v (.one (.bool true))) true :=
  (ok31 (999980 + 20)).2 (t, u, v, ()) true (by
    show f31 (999980 + 20) t u v = some true
    have hBig := BIG_eq
    simp only [f31, o31_0]
    obtain ⟨b, hb, hg⟩ := f99_ok (999980 + 20) t u (by omega)
    rw [hb, Option.bind_some]
    cases b with
    | false => rfl
    | true =>
    obtain ⟨b2, hb2, hg2⟩ := f99_ok (999980 + 20) t v (by omega)
    rw [if_neg (by simp), hb2, Option.bind_some]
    cases b2 with
    | false => rfl
    | true =>
    obtain ⟨b3, hb3, hg3⟩ := f99_ok (999980 + 20) u v (by omega)
    rw [if_neg (by simp), hb3, Option.bind_some]
    cases b3 with
    | false => rfl
    | true =>
      obtain ⟨hs1, hs2, hr1, hr2, hf1, hf2, hok⟩ := hg rfl
      obtain ⟨-, hs3, -, hr3, -, hf3, hok2⟩ := hg2 rfl
      obtain ⟨-, -, -, -, -, -, hok3⟩ := hg3 rfl
      rw [if_neg (by simp), f82_ok _ t (by omega) (by omega), if_pos hr1, Option.bind_some]
      simp only [decide_eq_true_eq]
      by_cases h1 : 100 < t.free
      · rw [if_pos h1]
      rw [if_neg h1]
      have hfr := Tm.free_range t hr1
      have hfu := Tm.free_range u hr2
      have hfv := Tm.free_range v hr3
      have hk1 : okv t u = true := okv_of hr2 hok
      have hk2 : okv t v = true := okv_of hr3 hok2
      have hk3 : okv u v = true := okv_of hr3 hok3
      have hzu := Tm.strip_size' u hr2
      have hzv := Tm.strip_size' v hr3
      have hsfu := Tm.strip_free' u hr2
      have hsfv := Tm.strip_free' v hr3
      have hdu := Tm.deep_size u
      have hdv := Tm.deep_size v
      have hdzu := Tm.deep_size u.strip
      have hdzv := Tm.deep_size v.strip
      have hroomv : v.room (2 * u.size) := by unfold Tm.room; omega
      have hroomv' : v.strip.room (2 * u.size) := by unfold Tm.room; omega
      have hroomu : u.room (2 * t.size) := by unfold Tm.room; omega
      have hroomu' : u.strip.room (2 * t.size) := by unfold Tm.room; omega
      have hsz5 : (put t u).size ≤ t.size * 120 := Tm.sb_size u 120 (by omega) (by omega) (by omega) t hr1 0 _
      have hsz8 : (put u v).size ≤ u.size * 120 := Tm.sb_size v 120 (by omega) (by omega) (by omega) u hr2 0 _
      have hr5 : (put t u).right = true := Tm.sb_right u t hr1 hr2 hok hroomu hroomu' (by omega)
      have hr8 : (put u v).right = true := Tm.sb_right v u hr2 hr3 hok3 hroomv hroomv' (by omega)
      have hf8 : (put u v).free ≤ max (u.free - 1) (0 + v.free) := Tm.sb_free v v.free (by omega) (by omega) hsfv u hr2 0 _ (by omega)
      have e5 : t.putZ u = put t u := Tm.putZ_sb t u hr1 hk1 (by omega)
      have e8 : u.putZ v = put u v := Tm.putZ_sb u v hr2 hk3 (by omega)
      have hk8 : okv t (put u v) = true := by
        refine okv_of hr8 ?_
        rcases hok with h | h | h | h
        · exact .inl h
        · exact .inr (.inl h)
        · exact .inr (.inr (.inl h))
        · rcases hok2 with h' | h' | h' | h'
          · exact .inl h'
          · exact .inr (.inl h')
          · exact .inr (.inr (.inl h'))
          · right; right; right
            have := marked_kind h
            unfold put
            rw [decide_eq_false (by omega)]
            exact Tm.sb_marked v (2 * u.size) h' (Tm.strip_plain v h') hroomv' hroomv u hr2 0 h (by omega) (by omega)
      have hall := allZ_list t [put u v, v] 100 (by omega) hr1 (by omega) (by omega) (by
        intro x hx
        simp only [List.mem_cons, List.not_mem_nil, or_false] at hx
        rcases hx with rfl | rfl
        · exact ⟨hk8, by omega⟩
        · exact ⟨hk2, by omega⟩) (listed (put u v) v) (listed_at _ v) (fun p a h => listed_var _ v p a h)
      have hbig := two_eq t u v hr1 hr2 hr3 hok hok2 hok3 hroomv' (by omega) hr8
      simp only [c31_1, o31_1, Tm.eta]
      rw [f97_ok _ t u (by omega) (by omega) (by omega) (by omega), Option.bind_some, e5]
      obtain ⟨b4, hb4, hg4⟩ := f104_ok (999980 + 20) (put t u) v (by omega) (by omega) (by omega)
      rw [hb4, Option.bind_some]
      cases b4 with
      | false => rw [if_pos (by simp), w98_true]; rfl
      | true =>
      obtain ⟨hs5, -, hok5⟩ := hg4 rfl
      have e11 : (put t u).putZ v = put (put t u) v := Tm.putZ_sb _ v hr5 (okv_of hr3 hok5) (by omega)
      have hsz11 : (put (put t u) v).size ≤ (put t u).size * 120 := Tm.sb_size v 120 (by omega) (by omega) (by omega) _ hr5 0 _
      rw [if_neg (by simp), f97_ok _ u v (by omega) (by omega) (by omega) (by omega), Option.bind_some, e8]
      refine l31_ok _ t v (put t u) (put u v) _ 100 0 _ (by omega) (by omega) (fun m => ?_)
      simp only [l31_2, o31_2, decide_eq_true_eq]
      rw [if_neg (by omega), f101_ok _ t _ 14400 (fun x hx => by
        rcases List.mem_append.1 hx with hx | hx
        · simp only [List.mem_cons, List.not_mem_nil, or_false] at hx
          rcases hx with rfl | rfl
          · omega
          · omega
        · obtain ⟨j, hj, rfl⟩ := vars_mem hx
          rw [var_size]; omega) (by omega) (by simp [vars_length, BIG_eq]) (by simp [vars_length]) (by omega) (by omega), Option.bind_some, hall]
      simp only [if_true]
      rw [f97_ok2 _ (put t u) v (by omega) (by omega) (by omega) (by omega), Option.bind_some, e11, hbig, f68_ok _ _ _ (by rw [← hbig]; omega) (by rw [← hbig]; omega), Tm.same_refl, w98_true]
      rfl)
end Go.Proofs.Yteaglcbnkephgaa
