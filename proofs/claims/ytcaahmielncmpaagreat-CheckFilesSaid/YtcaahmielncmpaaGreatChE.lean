/-
  Plain facts on what the functions compute.
-/
import Derived.Test.YtcaahmielncmpaaGreatChC
import Derived.Test.YtcaahmielncmpaaGreatChD
set_option linter.unusedSimpArgs false
set_option linter.unusedVariables false
namespace Go.Proofs.YtcaahmielncmpaaGreat
open Go
set_option maxRecDepth 20000

def ctxO (m : Nat) (l : List Dv) : List Ent × Int × List Int := if Dv.oks l = true then cout (cxs m [] 0 l) else ([], 1, [])
theorem cxs_bd {m : Nat} (hm : Held m) : ∀ (l : List Dv) (c c' : List Ent) (k : Nat), Dv.sizes l ≤ 100 → Bd c (Dv.sizes l + 50) → pureC c = true → cxs m c k l = .ok c' → pureC c' = true ∧ Bd c' 50
  | [], c, c', k, _, hb, hp, h => by
    rw [cxs] at h
    cases h
    exact ⟨hp, hb.le (by simp [Dv.sizes])⟩
  | d :: l, c, c', k, hl, hb, hp, h => by
    have hsz : Dv.sizes (d :: l) = d.size + Dv.sizes l := rfl
    have hdp := Dv.size_pos d
    rw [cxs] at h
    split at h
    · cases h
    · rename_i J hJ
      split at h
      · rename_i ht
        have hr := jg_right hm (w := d.size) (by omega) (hb.le (by omega)) hJ
        have hJs := jg_ok hm d.size d c J (Nat.le_refl _) (hb.le (by omega)) hJ
        unfold jsz at hJs
        obtain ⟨a1, a2, a3⟩ := entry_ok (r := 3) hr ht
        exact cxs_bd hm l _ c' (k + 1) (by omega) (Bd.add (hb.le (by omega)) (by show J.u.size ≤ 1002; omega)) (pureC_add hp a1 a2 a3) h
      · cases h
theorem cxs_len {m : Nat} : ∀ (l : List Dv) (c : List Ent) (k : Nat) (x : Int) (b : List Int), cxs m c k l = .error (x, b) → b.length ≤ Dv.sizes l + 1
  | [], c, k, x, b, h => by rw [cxs] at h; cases h
  | d :: l, c, k, x, b, h => by
    have hsz : Dv.sizes (d :: l) = d.size + Dv.sizes l := rfl
    rw [cxs] at h
    split at h
    · rename_i x' b' hx
      cases h
      have := (jg_err _ d c x b' (Nat.le_refl _) hx).1
      simp; omega
    · split at h
      · have := cxs_len l _ _ x b h
        omega
      · cases h; simp
theorem l25_ok {m : Nat} (hm : Held m) (n : Nat) (hn : 20002000 < n) (l : List Dv) (hl : Dv.sizes l ≤ 100) : ∀ (rest pre : List Dv) (fu : Nat) (c : List Ent), l = pre ++ rest → rest.length < fu → Bd c (Dv.sizes rest + 50) → l25_1 n fu l m c (pre.length : Int) = some (cout (cxs m c pre.length rest))
  | [], pre, fu, c, hk, hf, hb => by
    obtain ⟨fu, rfl⟩ := fuel hf
    simp only [l25_1, o25_1, decide_eq_true_eq, ifB_eq]
    rw [if_neg (ge_at hk)]; rfl
  | d :: rest, pre, fu, c, hk, hf, hb => by
    obtain ⟨fu, rfl⟩ := fuel hf
    simp only [List.length_cons] at hf
    have hlt := len_of_eq hk
    have hll := Dv.length_le l
    have hB := BIG_eq
    have hsz : Dv.sizes (d :: rest) = d.size + Dv.sizes rest := rfl
    have hds : d.size ≤ 100 := by have : d ∈ l := by rw [hk]; simp
                                  have := Dv.size_mem this; omega
    have hdp := Dv.size_pos d
    have hcl : csize c ≤ 1000000 := by have := hb.2.1; omega
    simp only [l25_1, o25_1, decide_eq_true_eq, ifB_eq]
    have h50 := f50_ok hm d.size n d c [(pre.length : Int)] (Nat.le_refl _) (by omega) (by omega) (hb.le (by omega)) (by simp; omega)
    rw [if_pos (lt_at hk), atI_at hk, h50, Option.bind_some, cxs]
    cases hg : jg m c d with
    | error f =>
      obtain ⟨x, b⟩ := f
      obtain ⟨_, e2⟩ := jg_err _ d c x b (Nat.le_refl _) hg
      refine (if_pos (show (!decide (x = (0 : Int))) = true by simp; omega)).trans ?_
      simp [rout, cout]
    | ok J =>
      have hr := jg_right hm (w := d.size) (by omega) (hb.le (by omega)) hg
      have hJs := jg_ok hm d.size d c J (Nat.le_refl _) (hb.le (by omega)) hg
      unfold jsz at hJs
      refine (if_neg (show ¬ (!decide ((0 : Int) = (0 : Int))) = true by simp)).trans ?_
      dsimp only [rout]
      rw [f53_ok n (rightJ_RJ hr) false (by omega) (by omega), Option.bind_some]
      cases ht : typedB J false with
      | false => rw [if_pos (by rfl), if_neg (by simp)]; rfl
      | true =>
        rw [if_neg (by simp), if_pos rfl]
        dsimp only
        rw [f54_ok' n c J.u _ (by omega) (by omega), Option.bind_some, ckI_eq (by omega), typed_i ht]
        have hb2 : Bd (c ++ [⟨J.u, J.a.i⟩]) (Dv.sizes rest + 50) := Bd.add (hb.le (by omega)) (by show J.u.size ≤ 1002; omega)
        have := l25_ok hm n hn l hl rest (pre ++ [d]) fu (c ++ [⟨J.u, J.a.i⟩]) (next_at hk) (by omega) hb2
        rw [len_snoc] at this
        simpa using this
theorem bd0 {w : Nat} (hw : w ≤ 800) : Bd [] w := ⟨by simp; omega, by simp only [csize]; omega, fun e he => by cases he⟩
theorem f25_ok {m : Nat} (hm : Held m) (n : Nat) (hn : 20002000 < n) (l : List Dv) (hl : Dv.sizes l ≤ 100) : f25 n l m = some (ctxO m l) := by
  have hll := Dv.length_le l
  have hB := BIG_eq
  simp only [f25, o25_0, ifB_eq]
  rw [f52_ok n l (by omega) (by omega), Option.bind_some]
  unfold ctxO
  cases Dv.oks l with
  | false => rw [if_pos (by rfl), if_neg (by simp)]
  | true =>
    rw [if_neg (by simp), if_pos rfl]
    have := l25_ok hm n hn l hl l [] n [] rfl (by omega) (bd0 (by omega))
    rw [len_nil] at this
    exact this

/-- A whole file. -/
def whole (m : Nat) (F : Fl) : List Ent × Jd × Int × List Int :=
  if (Dv.oks F.ctx && F.d.ok) = true then (match cxs m [] 0 F.ctx with
    | .error f => ([], zeroJ, f.1, 0 :: f.2)
    | .ok c => match jg m c F.d with
      | .error f => ([], zeroJ, f.1, 1 :: f.2.reverse)
      | .ok J => (c, J, 0, [])) else ([], zeroJ, 1, [])
theorem f23_ok {m : Nat} (hm : Held m) (n : Nat) (hn : 20002000 < n) (F : Fl) (hF : Dv.sizes F.ctx + F.d.size ≤ 40) : f23 n F m = some (whole m F) := by
  have hll := Dv.length_le F.ctx
  have hB := BIG_eq
  simp only [f23, o23_0, ifB_eq, tz_eq, zj_eq]
  rw [f52_ok n F.ctx (by omega) (by omega), Option.bind_some]
  unfold whole
  cases ho : Dv.oks F.ctx with
  | false => rw [if_pos (by rfl)]; rfl
  | true =>
    rw [if_neg (by simp), f49_ok n F.d (by omega) (by omega), Option.bind_some]
    cases F.d.ok with
    | false => rw [if_pos (by rfl)]; rfl
    | true =>
      rw [if_neg (by simp), if_pos (by rfl)]
      unfold c23_1
      simp only [o23_1, ifB_eq, tz_eq, zj_eq]
      rw [f25_ok hm n hn F.ctx (by omega), Option.bind_some]
      unfold ctxO
      rw [ho, if_pos rfl]
      cases hc : cxs m [] 0 F.ctx with
      | error f =>
        obtain ⟨x, b⟩ := f
        have h0 := cxs_err _ _ _ _ _ hc
        have h1 := cxs_len _ _ _ _ _ hc
        refine (if_pos (show (!decide (x = (0 : Int))) = true by simpa using h0)).trans ?_
        dsimp only [cout]
        rw [ckB_eq (by simp; omega)]
        rfl
      | ok c =>
        obtain ⟨p1, p2⟩ := cxs_bd hm F.ctx [] c 0 (by omega) (bd0 (by omega)) (by rfl) hc
        refine (if_neg (show ¬ (!decide ((0 : Int) = (0 : Int))) = true by simp)).trans ?_
        dsimp only [cout]
        rw [f50_ok hm 50 n F.d c [1] (by omega) (by omega) (by omega) p2 (by simp), Option.bind_some]
        cases hg : jg m c F.d with
        | error f =>
          obtain ⟨x, b⟩ := f
          obtain ⟨_, e2⟩ := jg_err _ F.d c x b (Nat.le_refl _) hg
          exact (if_pos (show (!decide (x = (0 : Int))) = true by simp; omega)).trans rfl
        | ok J => exact (if_neg (show ¬ (!decide ((0 : Int) = (0 : Int))) = true by simp)).trans rfl
theorem l22_ok {m : Nat} (hm : Held m) (n : Nat) (hn : 20002000 < n) (F : Fl) (hF : Dv.sizes F.ctx + F.d.size ≤ 40) (z0 : Bool) (z1 z2 z3 z4 z5 z6 z7 z8 z9 z10 z11 z12 z13 : Int) : ∀ (rest pre : List Dv) (fu : Nat) (B : Bool), F.ctx = pre ++ rest → rest.length < fu → (B && Dv.oks rest) = (F.d.ok && Dv.oks F.ctx) →
    l22_1 n fu m F z0 z1 z2 z3 z4 z5 z6 z7 z8 z9 z10 z11 z12 z13 B F.ctx (F.ctx.length : Int) (pre.length : Int) = some (whole m F)
  | [], pre, fu, B, hk, hf, hB0 => by
    obtain ⟨fu, rfl⟩ := fuel hf
    have hll := Dv.length_le F.ctx
    have hB := BIG_eq
    simp only [l22_1, o22_1, decide_eq_true_eq, ifB_eq, tz_eq, zj_eq]
    rw [if_neg (ge_at hk)]
    have hBv : B = (F.d.ok && Dv.oks F.ctx) := by rw [← hB0]; simp [Dv.oks]
    unfold whole
    cases B with
    | false =>
      rw [if_pos (by rfl)]
      rw [Bool.and_comm] at hBv
      rw [← hBv]; rfl
    | true =>
      have hBv2 := hBv
      rw [Bool.and_comm] at hBv
      rw [← hBv, if_neg (by simp), if_pos rfl]
      have hv := hBv2.symm
      rw [Bool.and_eq_true] at hv
      rw [f24_ok hm n hn F.ctx (by omega), hv.2, if_pos rfl, Option.bind_some]
      cases hc : cxs m [] 0 F.ctx with
      | error f =>
        obtain ⟨x, b⟩ := f
        have h0 := cxs_err _ _ _ _ _ hc
        have h1 := cxs_len _ _ _ _ _ hc
        refine (if_pos (show (!decide (x = (0 : Int))) = true by simpa using h0)).trans ?_
        dsimp only [cout]
        rw [ckB_eq (by simp; omega)]
        rfl
      | ok c =>
        obtain ⟨p1, p2⟩ := cxs_bd hm F.ctx [] c 0 (by omega) (bd0 (by omega)) (by rfl) hc
        refine (if_neg (show ¬ (!decide ((0 : Int) = (0 : Int))) = true by simp)).trans ?_
        dsimp only [cout]
        rw [f17_ok hm (w := 50) (by omega) (by omega) (by omega) p2, Option.bind_some]
        unfold jdg
        rw [p1, hv.1, if_pos (show (true && true) = true from rfl)]
        cases hg : jg m c F.d with
        | error f =>
          obtain ⟨x, b⟩ := f
          obtain ⟨e1, e2⟩ := jg_err _ F.d c x b (Nat.le_refl _) hg
          refine (if_pos (show (!decide (x = (0 : Int))) = true by simp; omega)).trans ?_
          dsimp only
          rw [ckB_eq (by simp; omega)]
          rfl
        | ok J => exact (if_neg (show ¬ (!decide ((0 : Int) = (0 : Int))) = true by simp)).trans rfl
  | d :: rest, pre, fu, B, hk, hf, hB0 => by
    obtain ⟨fu, rfl⟩ := fuel hf
    simp only [List.length_cons] at hf
    have hlt := len_of_eq hk
    have hll := Dv.length_le F.ctx
    have hB := BIG_eq
    have hds : d.size ≤ 40 := by have : d ∈ F.ctx := by rw [hk]; simp
                                 have := Dv.size_mem this; omega
    simp only [l22_1, o22_1, decide_eq_true_eq, ifB_eq]
    rw [if_pos (lt_at hk), atI_at hk]
    have ho : Dv.oks (d :: rest) = (d.ok && Dv.oks rest) := rfl
    rw [ho] at hB0
    cases B with
    | true =>
      rw [if_pos rfl, f46_ok n d (by omega) (by omega), Option.bind_some, ckI_eq (by omega)]
      have := l22_ok hm n hn F hF z0 z1 z2 z3 z4 z5 z6 z7 z8 z9 z10 z11 z12 z13 rest (pre ++ [d]) fu d.ok (next_at hk) (by omega) (by rw [← hB0]; simp)
      rw [len_snoc] at this
      exact this
    | false =>
      rw [if_neg (by simp), ckI_eq (by omega)]
      have := l22_ok hm n hn F hF z0 z1 z2 z3 z4 z5 z6 z7 z8 z9 z10 z11 z12 z13 rest (pre ++ [d]) fu false (next_at hk) (by omega) (by rw [← hB0]; simp)
      rw [len_snoc] at this
      exact this
theorem f22_ok {m : Nat} (hm : Held m) (n : Nat) (hn : 20002000 < n) (F : Fl) (hF : Dv.sizes F.ctx + F.d.size ≤ 40) : f22 n F m = some (whole m F) := by
  have hll := Dv.length_le F.ctx
  have hB := BIG_eq
  simp only [f22, o22_0]
  rw [f46_ok n F.d (by omega) (by omega), Option.bind_some]
  have := l22_ok hm n hn F hF false 0 0 0 0 0 0 0 0 0 0 0 0 0 F.ctx [] n F.d.ok rfl (by omega) rfl
  rw [len_nil] at this
  exact this
theorem ctxO_bd {m : Nat} (hm : Held m) {l : List Dv} (hl : Dv.sizes l ≤ 40) : csize (ctxO m l).1 ≤ 1000000 ∧ (ctxO m l).2.2.length ≤ 1000 := by
  unfold ctxO
  cases Dv.oks l with
  | false => exact ⟨by show (0 : Nat) ≤ 1000000; decide, by show (0 : Nat) ≤ 1000; decide⟩
  | true =>
    rw [if_pos rfl]
    cases hc : cxs m [] 0 l with
    | error f =>
      obtain ⟨x, b⟩ := f
      have h1 := cxs_len _ _ _ _ _ hc
      exact ⟨by show (0 : Nat) ≤ 1000000; decide, by show b.length ≤ 1000; omega⟩
    | ok c =>
      obtain ⟨_, p2⟩ := cxs_bd hm l [] c 0 (by omega) (bd0 (by omega)) (by rfl) hc
      have := p2.2.1
      exact ⟨by show csize c ≤ 1000000; omega, by show (0 : Nat) ≤ 1000; decide⟩
theorem whole_bd {m : Nat} (hm : Held m) {F : Fl} (hF : Dv.sizes F.ctx + F.d.size ≤ 40) : csize (whole m F).1 ≤ 1000000 ∧ jsz (whole m F).2.1 ≤ 1001 ∧ (whole m F).2.2.2.length ≤ 1000 := by
  have hz : jsz zeroJ ≤ 1001 := by decide
  have h0 : csize [] ≤ 1000000 := by decide
  unfold whole
  cases (Dv.oks F.ctx && F.d.ok) with
  | false => exact ⟨h0, hz, by show (0 : Nat) ≤ 1000; decide⟩
  | true =>
    rw [if_pos rfl]
    cases hc : cxs m [] 0 F.ctx with
    | error f =>
      obtain ⟨x, b⟩ := f
      have h1 := cxs_len _ _ _ _ _ hc
      exact ⟨h0, hz, by show b.length + 1 ≤ 1000; omega⟩
    | ok c =>
      obtain ⟨_, p2⟩ := cxs_bd hm F.ctx [] c 0 (by omega) (bd0 (by omega)) (by rfl) hc
      have := p2.2.1
      dsimp only
      cases hg : jg m c F.d with
      | error f =>
        obtain ⟨x, b⟩ := f
        obtain ⟨e1, _⟩ := jg_err _ F.d c x b (Nat.le_refl _) hg
        exact ⟨h0, hz, by simp; omega⟩
      | ok J => exact ⟨by show csize c ≤ 1000000; omega, jg_ok hm 50 F.d c J (by omega) p2 hg, by show (0 : Nat) ≤ 1000; decide⟩
end Go.Proofs.YtcaahmielncmpaaGreat
