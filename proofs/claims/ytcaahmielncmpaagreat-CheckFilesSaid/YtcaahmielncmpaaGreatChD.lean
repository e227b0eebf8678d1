/-
  Plain facts on what the functions compute.
-/
import Derived.Test.YtcaahmielncmpaaGreatChB
set_option linter.unusedSimpArgs false
set_option linter.unusedVariables false
namespace Go.Proofs.YtcaahmielncmpaaGreat
open Go
set_option maxRecDepth 20000
theorem jg_right {m : Nat} (hm : Held m) {d : Dv} {c : List Ent} {J : Jd} {w : Nat} (hd : d.size ≤ w + 1) (hb : Bd c (w + 1)) (h : jg m c d = .ok J) : rightJ (c.length : Int) J = true := by
  rw [jg_eq] at h
  split at h
  · cases h
  · rename_i on hon
    obtain ⟨h1, h2⟩ := jgs_ok hm hb (fun k hk e J' he hJ => by have := jg_ok hm w k e J' (by have := Dv.size_kid hk; omega) he hJ; omega) (fun j hj => by cases hj) hon
    have hl := Dv.len_kids d
    have hbl := hb.1
    have hsz := hb.sized h1 (by simp at h2; omega)
    have hp := (jfin_ok hm (r := d.rule) (i := d.i) hsz h).2
    exact ((f9_ex (n := 20000001) (by omega) hsz).2 J hp).1
/-- check.Ctx, of right derivations. -/
def cxs (m : Nat) : List Ent → Nat → List Dv → Except (Int × List Int) (List Ent)
  | c, _, [] => .ok c
  | c, k, d :: ds => match jg m c d with
    | .error (x, b) => .error (x, (b ++ [(k : Int)]).reverse)
    | .ok J => if typedB J false = true then cxs m (c ++ [⟨J.u, J.a.i⟩]) (k + 1) ds else .error (3, [(k : Int)])
def cout : Except (Int × List Int) (List Ent) → List Ent × Int × List Int
  | .ok c => (c, 0, [])
  | .error f => ([], f.1, f.2)
theorem Bd.add {c : List Ent} {w : Nat} {e : Ent} (h : Bd c (w + 1)) (he : e.a.size ≤ 1002) : Bd (c ++ [e]) w := by
  obtain ⟨h1, h2, h3⟩ := h
  refine ⟨by simp only [List.length_append, List.length_cons, List.length_nil]; omega, by rw [csize_append]; simp only [csize]; omega, fun x hx => ?_⟩
  rcases List.mem_append.1 hx with hx | hx
  · exact h3 x hx
  · simp only [List.mem_singleton] at hx
    subst hx; exact he
theorem l24_2_ok {m : Nat} (hm : Held m) (n : Nat) (hn : 20002000 < n) (l : List Dv) (hl : Dv.sizes l ≤ 100) : ∀ (rest pre : List Dv) (fu : Nat) (c : List Ent), l = pre ++ rest → rest.length < fu → Bd c (Dv.sizes rest + 50) → l24_2 n fu m c l (l.length : Int) (pre.length : Int) = some (cout (cxs m c pre.length rest))
  | [], pre, fu, c, hk, hf, hb => by
    obtain ⟨fu, rfl⟩ := fuel hf
    simp only [l24_2, o24_2, decide_eq_true_eq, ifB_eq]
    rw [if_neg (ge_at hk)]; rfl
  | d :: rest, pre, fu, c, hk, hf, hb => by
    obtain ⟨fu, rfl⟩ := fuel hf
    simp only [List.length_cons] at hf
    have hlt := len_of_eq hk
    have hll := Dv.length_le l
    have hB := BIG_eq
    have hsz : Dv.sizes (d :: rest) = d.size + Dv.sizes rest := rfl
    have hds : d.size ≤ 100 := by have : d ∈ l := by rw [hk]; simp
                                  have := Dv.size_mem this; omega
    have hdp := Dv.size_pos d
    simp only [l24_2, o24_2, decide_eq_true_eq, ifB_eq]
    have h118 := f47_ok hm d.size n d c (Nat.le_refl _) (by omega) (by omega) (hb.le (by omega))
    rw [if_pos (lt_at hk), atI_at hk, cxs]
    cases hg : jg m c d with
    | error f =>
      obtain ⟨x, b⟩ := f
      obtain ⟨e1, _⟩ := jg_err _ d c x b (Nat.le_refl _) hg
      rw [hg] at h118
      have h118 : f47 n c d m = some (zeroJ, some (x, b)) := h118
      rw [h118, Option.bind_some, if_pos (by rfl)]
      show (ckB (decide ((b.length + [(pre.length : Int)].length) * 8 ≤ 140737488355328) && decide (b.length + [(pre.length : Int)].length ≤ 9223372036854775807)) ((f48 n (x, b ++ [(pre.length : Int)], ())).bind fun x6 => some (([] : List Ent), x, x6))) = _
      rw [ckB_eq (by simpa using room8 (show b.length ≤ 100000 by omega)), f48_ok n x _ (by simp; omega) (by simp; omega), Option.bind_some]
      rfl
    | ok J =>
      have hr := rightJ_Pr (jg_right hm (w := d.size) (by omega) (hb.le (by omega)) hg)
      have hJs := jg_ok hm d.size d c J (Nat.le_refl _) (hb.le (by omega)) hg
      have hai := hr.ai'
      unfold jsz at hJs
      have hfail : typedB J false = false → (some (([] : List Ent), (3 : Int), [(pre.length : Int)]) : Option (List Ent × Int × List Int)) = some (cout (if typedB J false = true then cxs m (c ++ [⟨J.u, J.a.i⟩]) (pre.length + 1) rest else .error (3, [(pre.length : Int)]))) := fun h => by rw [h, if_neg (by simp)]; rfl
      rw [hg] at h118
      have h118 : f47 n c d m = some (J, none) := h118
      rw [h118, Option.bind_some, if_neg (by simp)]
      show (if J.eq = true then _ else _) = _
      by_cases he : J.eq = true
      case pos => rw [if_pos he]; exact hfail (by unfold typedB; rw [he]; rfl)
      rw [if_neg he]
      have he : J.eq = false := by simpa using he
      show (if (!decide (J.a.kind = 1)) = true then _ else _) = _
      by_cases hk1 : J.a.kind = 1
      case neg => rw [if_pos (by simp [hk1])]; exact hfail (by unfold typedB; simp [hk1])
      rw [if_neg (by simp [hk1])]
      show ckI (J.a.i + 1) (if (!decide (J.i = J.a.i + 1)) = true then _ else c24_3 n (l24_2 n fu) m c J l (l.length : Int) (pre.length : Int)) = _
      rw [ckI_eq (by omega)]
      by_cases hk2 : J.i = J.a.i + 1
      case neg => rw [if_pos (by simp [hk2])]; exact hfail (by unfold typedB; simp [hk2])
      have ht : typedB J false = true := by unfold typedB; simp [he, hk1, hk2]
      rw [if_neg (by simp [hk2])]
      dsimp only
      rw [ht, if_pos rfl]
      unfold c24_3
      simp only [o24_3, Tm.eta]
      have hcl : c.length ≤ 900 := by have := hb.1; omega
      rw [ckB_eq (by simpa using room64 (show c.length ≤ BIG by omega)), ckI_eq (by omega)]
      have hb2 : Bd (c ++ [⟨J.u, J.a.i⟩]) (Dv.sizes rest + 50) := Bd.add (hb.le (by omega)) (by show J.u.size ≤ 1002; omega)
      have := l24_2_ok hm n hn l hl rest (pre ++ [d]) fu (c ++ [⟨J.u, J.a.i⟩]) (next_at hk) (by omega) hb2
      rw [len_snoc] at this
      simpa using this
theorem l24_1_ok {m : Nat} (hm : Held m) (n : Nat) (hn : 20002000 < n) (l : List Dv) (hl : Dv.sizes l ≤ 100) : ∀ (rest pre : List Dv) (fu : Nat), l = pre ++ rest → rest.length + 200 < fu → l24_1 n fu l m l (l.length : Int) (pre.length : Int) = some (if Dv.oks rest = true then cout (cxs m [] 0 l) else ([], 1, []))
  | [], pre, fu, hk, hf => by
    obtain ⟨fu, rfl⟩ := fuel hf
    have hll := Dv.length_le l
    simp only [l24_1, o24_1, decide_eq_true_eq, ifB_eq]
    rw [if_neg (ge_at hk), ckB_eq (by simp; omega), if_pos (by rfl)]
    have h2 := l24_2_ok hm n hn l hl l [] fu [] rfl (by omega) ⟨by simp; omega, by simp only [csize]; omega, fun e he => by cases he⟩
    rw [len_nil] at h2
    exact h2
  | d :: rest, pre, fu, hk, hf => by
    obtain ⟨fu, rfl⟩ := fuel hf
    simp only [List.length_cons] at hf
    have hlt := len_of_eq hk
    have hll := Dv.length_le l
    have hB := BIG_eq
    have hds : d.size ≤ 100 := by have : d ∈ l := by rw [hk]; simp
                                  have := Dv.size_mem this; omega
    simp only [l24_1, o24_1, decide_eq_true_eq, ifB_eq]
    have ho : Dv.oks (d :: rest) = (d.ok && Dv.oks rest) := rfl
    rw [if_pos (lt_at hk), atI_at hk, f46_ok n d (by omega) (by omega), Option.bind_some, ho]
    cases d.ok with
    | false => rw [if_pos (by rfl), if_neg (by simp)]
    | true =>
      rw [if_neg (by simp), ckI_eq (by omega), Bool.true_and]
      have := l24_1_ok hm n hn l hl rest (pre ++ [d]) fu (next_at hk) (by omega)
      rw [len_snoc] at this
      exact this
theorem f24_ok {m : Nat} (hm : Held m) (n : Nat) (hn : 20002000 < n) (l : List Dv) (hl : Dv.sizes l ≤ 100) : f24 n l m = some (if Dv.oks l = true then cout (cxs m [] 0 l) else ([], 1, [])) := by
  have hll := Dv.length_le l
  simp only [f24, o24_0]
  have := l24_1_ok hm n hn l hl l [] n rfl (by omega)
  rw [len_nil] at this
  exact this
theorem cxs_err {m : Nat} : ∀ (l : List Dv) (c : List Ent) (k : Nat) (x : Int) (b : List Int), cxs m c k l = .error (x, b) → x ≠ 0
  | [], c, k, x, b, h => by rw [cxs] at h; cases h
  | d :: l, c, k, x, b, h => by
    rw [cxs] at h
    split at h
    · rename_i x' b' hx
      cases h
      have := (jg_err _ d c x b' (Nat.le_refl _) hx).2
      omega
    · split at h
      · exact cxs_err l _ _ x b h
      · cases h; decide
theorem lf71_ok (n : Nat) (F : Fl) (hn : 2000 < n) (hl : F.ctx.length ≤ 1000) : ∀ (rest pre : List Dv) (fu : Nat) (t : Int), F.ctx = pre ++ rest → rest.length < fu → 0 ≤ t → t ≤ 41 → ∃ b, l21_1 n fu 40 F t (pre.length : Int) = some b ∧ (b = false → t + (Dv.sizes rest : Int) ≤ 40)
  | [], pre, fu, t, hk, hf, h0, h1 => by
    obtain ⟨fu, rfl⟩ := fuel hf
    simp only [l21_1, o21_1, decide_eq_true_eq, ifB_eq]
    rw [if_neg (ge_at hk)]
    refine ⟨_, rfl, fun h => ?_⟩
    simp only [decide_eq_false_iff_not] at h
    simp only [Dv.sizes]
    omega
  | d :: rest, pre, fu, t, hk, hf, h0, h1 => by
    obtain ⟨fu, rfl⟩ := fuel hf
    simp only [List.length_cons] at hf
    have hlt := len_of_eq hk
    simp only [l21_1, o21_1, decide_eq_true_eq, ifB_eq]
    rw [if_pos (lt_at hk)]
    by_cases ht : t ≤ 40
    case neg =>
      rw [if_neg ht]
      exact ⟨_, rfl, fun h => by simp only [decide_eq_false_iff_not] at h; omega⟩
    rw [if_pos ht]
    unfold c21_2
    simp only [o21_2]
    have hw := Dv.weigh_bound d (40 - t) 200 (by omega)
    rw [atI_at hk, ckI_eq (by omega), f51_ok n d (40 - t) 200 (by omega) (by omega) (by omega) (by omega) (by omega), Option.bind_some, ckI_eq (by omega), ckI_eq (by omega)]
    obtain ⟨b, hb, hq⟩ := lf71_ok n F hn hl rest (pre ++ [d]) fu (t + d.weigh (40 - t) 200) (next_at hk) (by omega) (by omega) (by omega)
    rw [len_snoc] at hb
    refine ⟨b, hb, fun h => ?_⟩
    have h2 := hq h
    have h3 := (Dv.weigh_size d (40 - t) 200 (by omega) (by omega) (by omega)).1
    have hsz : Dv.sizes (d :: rest) = d.size + Dv.sizes rest := rfl
    rw [hsz]
    omega
theorem f21_ok (n : Nat) (F : Fl) (hn : 2000 < n) : ∃ b, f21 n F 40 = some b ∧ (b = false → Dv.sizes F.ctx + F.d.size ≤ 40) := by
  simp only [f21, o21_0, ifB_eq, decide_eq_true_eq]
  by_cases hl : (40 : Int) < (F.ctx.length : Int)
  · rw [if_pos hl]; exact ⟨true, rfl, fun h => by cases h⟩
  rw [if_neg hl, f51_ok n F.d 40 200 (by omega) (by omega) (by omega) (by omega) (by omega), Option.bind_some]
  have hw := Dv.weigh_bound F.d 40 200 (by omega)
  obtain ⟨b, hb, hq⟩ := lf71_ok n F hn (by omega) F.ctx [] n (F.d.weigh 40 200) rfl (by omega) (by omega) (by omega)
  rw [len_nil] at hb
  refine ⟨b, hb, fun h => ?_⟩
  have h2 := hq h
  have h3 := (Dv.weigh_size F.d 40 200 (by omega) (by omega) (by omega)).1
  omega
end Go.Proofs.YtcaahmielncmpaaGreat
