/-
  Plain facts on what the functions compute.
-/
import Derived.Test.YtcaahmielncmpaaGreatChA
import Derived.Test.YtcaahmielncmpaaGreatFlA
set_option linter.unusedSimpArgs false
set_option linter.unusedVariables false
namespace Go.Proofs.YtcaahmielncmpaaGreat
open Go
set_option maxRecDepth 20000

theorem l119_ok (n : Nat) (x : Int) (b : List Int) (hb : b.length ≤ 100000) : ∀ (k m : Nat) (acc : List Int), k ≤ b.length → k < m → acc.length + k ≤ 100000 → l48_1 n m x b acc ((k : Int) - 1) = some (acc ++ (b.take k).reverse)
  | 0, m, acc, _, hm, _ => by
    obtain ⟨m, rfl⟩ := fuel hm
    simp only [l48_1, o48_1, decide_eq_true_eq, ifB_eq]
    rw [if_neg (by omega)]
    simp
  | k + 1, m, acc, hk, hm, ha => by
    obtain ⟨m, rfl⟩ := fuel hm
    have hg := List.getElem?_eq_getElem (show k < b.length by omega)
    simp only [l48_1, o48_1, decide_eq_true_eq, ifB_eq]
    have e : ((k + 1 : Nat) : Int) - 1 = (k : Int) := by omega
    rw [e, if_pos (by omega), atI_eq (x := b[k]) (by omega) (by simp), ckB_eq (by simpa using room8 (show acc.length ≤ 100000 by omega)), ckI_eq (by omega), l119_ok n x b hb k m (acc ++ [b[k]]) (by omega) (by omega) (by simp; omega)]
    rw [List.take_add_one, hg]
    simp only [Option.toList_some, List.reverse_append, List.reverse_cons, List.reverse_nil, List.nil_append, List.append_assoc, List.cons_append]
theorem f48_ok (n : Nat) (x : Int) (b : List Int) (hb : b.length ≤ 100000) (hn : b.length < n) : f48 n (x, b, ()) = some b.reverse := by
  simp only [f48, o48_0]
  rw [ckI_eq (by omega)]
  have := l119_ok n x b hb b.length n [] (Nat.le_refl _) hn (by simpa using hb)
  rw [this]
  simp
theorem li70_ok (n : Nat) (a b : List Int) (hl : a.length = b.length) (ha : a.length ≤ 100000) : ∀ (ra pa rb pb : List Int) (m : Nat), a = pa ++ ra → b = pb ++ rb → pa.length = pb.length → ra.length < m → l19_1 n m a b (pa.length : Int) = some (decide (ra = rb))
  | [], pa, rb, pb, m, h1, h2, h3, hm => by
    obtain ⟨m, rfl⟩ := fuel hm
    simp only [l19_1, o19_1, decide_eq_true_eq, ifB_eq]
    rw [if_neg (ge_at h1)]
    have : rb = [] := by
      rw [h1, h2] at hl
      simp at hl
      exact List.length_eq_zero_iff.1 (by omega)
    rw [this]; rfl
  | x :: ra, pa, rb, pb, m, h1, h2, h3, hm => by
    obtain ⟨m, rfl⟩ := fuel hm
    simp only [List.length_cons] at hm
    match rb, h2 with
    | [], h2 => rw [h1, h2] at hl; simp at hl; omega
    | y :: rb, h2 =>
      have hlt := len_of_eq h1
      simp only [l19_1, o19_1, decide_eq_true_eq, ifB_eq]
      rw [if_pos (lt_at h1), atI_at h1, h3, atI_at h2]
      by_cases e : x = y
      · subst e
        rw [if_neg (by simp), ckI_eq (by omega)]
        have := li70_ok n a b hl ha ra (pa ++ [x]) rb (pb ++ [x]) m (next_at h1) (next_at h2) (by simp [h3]) (by omega)
        rw [len_snoc, h3] at this
        rw [this]; simp
      · rw [if_pos (by simp [e]), decide_eq_false (by simp [e])]
theorem f19_ok (n : Nat) (a b : List Int) (ha : a.length ≤ 100000) (hn : a.length < n) : f19 n a b = some (decide (a = b)) := by
  simp only [f19, o19_0, decide_eq_true_eq, ifB_eq]
  by_cases hl : a.length = b.length
  · rw [if_neg (by simp [hl])]
    have := li70_ok n a b hl ha a [] b [] n rfl rfl rfl hn
    rw [len_nil] at this
    exact this
  · rw [if_pos (by simp; omega), decide_eq_false (fun e => hl (by rw [e]))]

/-- check.Judge -/
def jdg (m : Nat) (c : List Ent) (d : Dv) : Jd × Int × List Int :=
  if (pureC c && d.ok) = true then (match jg m c d with
    | .ok J => (J, 0, [])
    | .error f => (zeroJ, f.1, f.2.reverse)) else (zeroJ, 1, [])
theorem prem13 (c : List Ent) : premC c 13 0 [] = if pureC c = true then (c, true) else ([], false) := by
  unfold premC
  cases pureC c with
  | false => rw [if_pos (.inl rfl)]; rfl
  | true =>
    have h1 : ¬ (true = false ∨ (0 : Int) < 0 ∨ rkids 13 ≤ 0) := by decide
    rw [if_neg h1, if_pos (by decide)]; rfl
theorem f17_ok {m : Nat} (hm : Held m) {w n : Nat} {d : Dv} {c : List Ent} (hd : d.size ≤ w) (hw : w ≤ 801) (hn : 20001000 < n) (hb : Bd c w) : f17 n c d m = some (jdg m c d) := by
  have hcl : csize c ≤ 1000000 := by have := hb.2.1; omega
  have hB := BIG_eq
  unfold f17
  simp only [o17_0, tz_eq, zj_eq, ifB_eq]
  rw [f44_ok n c 13 0 [] (by omega) (by omega) (fun j hj => by cases hj), prem13, Option.bind_some]
  unfold jdg
  cases pureC c with
  | false => rw [if_pos (by rfl)]; rfl
  | true =>
    rw [if_neg (by simp), f46_ok n d (by omega) (by omega), Option.bind_some]
    cases d.ok with
    | false => rw [if_pos (by rfl)]; rfl
    | true =>
      rw [if_neg (by simp), if_pos (by rfl)]
      unfold c17_1
      simp only [o17_1, tz_eq, zj_eq, ifB_eq]
      rw [f47_ok hm w n d c hd hw (by omega) hb, Option.bind_some]
      cases hg : jg m c d with
      | ok J => simp only [jout, Option.isSome_none, Bool.false_eq_true, if_false]
      | error f =>
        obtain ⟨x, b⟩ := f
        have := jg_err _ d c x b (Nat.le_refl _) hg
        simp only [jout, Option.isSome_some, if_true, thO]
        rw [f48_ok n x b (by omega) (by omega), Option.bind_some]
def hd (m : Nat) : Nat := if fGt m 4652007308841189376 = true then 4652007308841189376 else m
theorem held_1000 : Held 4652007308841189376 := by
  intro a ha h
  rw [← k1000] at h
  exact (fOf_le (a := a) (b := 1000) (by omega) (by omega)).1 h
theorem held_hd (m : Nat) : Held (hd m) := by
  unfold hd
  cases hg : fGt m 4652007308841189376 with
  | true => rw [if_pos rfl]; exact held_1000
  | false =>
    rw [if_neg (by simp)]
    intro a ha h
    exact held_1000 a ha (fLe_trans h (fGt_le hg h (by rw [← k1000]; exact (fOf_le (a := 1000) (b := 1000) (by omega) (by omega)).2 (Nat.le_refl _))))
theorem pureC_add {c : List Ent} {e : Ent} (h : pureC c = true) (hi : lev e.i = true) (hp : e.a.pure = true) (hf : e.a.free ≤ (c.length : Int)) : pureC (c ++ [e]) = true := by
  have hr : ∀ {c : List Ent} {k : Nat}, rightC k c = true → e.a.free ≤ ((k + c.length : Nat) : Int) → rightC k (c ++ [e]) = true := by
    intro c
    induction c with
    | nil =>
      intro k _ hf
      simp only [List.nil_append, rightC, Bool.and_eq_true, decide_eq_true_eq]
      exact ⟨hi, pure_marked hp, by simpa using hf, trivial⟩
    | cons x c ih =>
      intro k h hf
      simp only [rightC, Bool.and_eq_true, List.cons_append] at h ⊢
      exact ⟨h.1, h.2.1, h.2.2.1, ih h.2.2.2 (by simp only [List.length_cons] at hf; omega)⟩
  have hq : ∀ {c : List Ent}, puresC c = true → puresC (c ++ [e]) = true := by
    intro c
    induction c with
    | nil => intro _; simp [puresC, hp]
    | cons x c ih =>
      intro h
      simp only [puresC, Bool.and_eq_true, List.cons_append] at h ⊢
      exact ⟨h.1, ih h.2⟩
  unfold pureC at *
  rw [Bool.and_eq_true] at *
  exact ⟨hr h.1 (by simpa using hf), hq h.2⟩
theorem entry_ok {K : Int} {r : Int} {j : Jd} (hj : rightJ K j = true) (he : (entryJ r j).2 = true) : lev (entryJ r j).1.i = true ∧ (entryJ r j).1.a.pure = true ∧ (entryJ r j).1.a.free ≤ K := by
  have h := rightJ_Pr hj
  have hu := pf_of h.u
  have ha := pf_of h.a
  unfold entryJ at *
  by_cases h1 : r = 3 ∨ r = 6 ∨ r = 4
  · rw [if_pos h1] at he ⊢
    exact ⟨(h.sort he).2, pf_pure h.u, hu.2.2⟩
  rw [if_neg h1] at he ⊢
  by_cases h2 : r = 25 ∨ r = 26 ∨ r = 27 ∨ r = 28
  · rw [if_pos h2] at he ⊢
    exact ⟨(h.sort he).2, pf_pure h.u, hu.2.2⟩
  · rw [if_neg h2]
    exact ⟨h.i, pf_pure h.a, ha.2.2⟩
end Go.Proofs.YtcaahmielncmpaaGreat
