/-
  Plain facts on what the functions compute.
-/
import Derived.Test.YtcaahmielncmpaaGreatRuA
set_option linter.unusedSimpArgs false
set_option linter.unusedVariables false
namespace Go.Proofs.YtcaahmielncmpaaGreat
open Go

theorem len_of_eq {α : Type} {c pre : List α} {x : α} {rest : List α} (h : c = pre ++ x :: rest) : pre.length < c.length := by rw [h]; simp
theorem l101_ok (n : Nat) (c : List Ent) (hl : c.length ≤ BIG) (hc : ∀ e ∈ c, e.a.size < n ∧ e.a.size ≤ BIG) : ∀ (rest pre : List Ent) (m : Nat), c = pre ++ rest → rest.length < m →
    l116_1 n m pre c (c.length : Int) (pre.length : Int) = some c := by
  intro rest
  induction rest with
  | nil =>
    intro pre m hk hm
    obtain ⟨m, rfl⟩ := fuel hm
    simp only [l116_1, o116_1, decide_eq_true_eq, ifB_eq]
    rw [if_neg (ge_at hk), hk]; simp
  | cons x rest ih =>
    intro pre m hk hm
    obtain ⟨m, rfl⟩ := fuel hm
    simp only [List.length_cons] at hm
    have hp : pre.length ≤ BIG := by have := len_of_eq hk; omega
    obtain ⟨hx1, hx2⟩ := hc x (by rw [hk]; simp)
    simp only [l116_1, o116_1, decide_eq_true_eq, atI_at hk, ifB_eq]
    rw [if_pos (lt_at hk), f35_ok n x.a hx1 hx2, Option.bind_some, ckB_eq (by simpa using room64 hp), ckI_eq (idx_ok hp), ent_eta, Ent.eta]
    have := ih (pre ++ [x]) m (next_at hk) (by omega)
    rw [len_snoc] at this
    exact this
theorem f116_ok' (n : Nat) (c : List Ent) (k : Int) (hk0 : 0 ≤ k) (hk1 : k ≤ 1000) (hn : csize c < n) (hb : csize c ≤ BIG) : f116 n c k = some c := by
  have hl := csize_len c
  simp only [f116, o116_0, ifB_eq]
  have hb2 := hb
  rw [BIG_eq] at hb2
  rw [ckI_eq (by omega), ckB_eq (by simp only [Bool.and_eq_true, decide_eq_true_eq]; omega)]
  have := l101_ok n c (by omega) (fun e he => by have := csize_mem he; omega) c [] n rfl (by omega)
  rw [len_nil] at this
  exact this
theorem f82_ok' (n : Nat) (c : List Ent) (t : Tm) (i : Int) (hn : csize c < n) (hb : csize c ≤ BIG) (ht : t.size < n) (htb : t.size ≤ BIG) : f82 n c t i = some (c ++ [Ent.mk t i]) := by
  have hl := csize_len c
  simp only [f82, o82_0, ifB_eq]
  rw [f116_ok' n c 1 (by omega) (by omega) hn hb, Option.bind_some, f35_ok n t ht htb, Option.bind_some, ckB_eq (by simpa using room64 (show c.length ≤ BIG by omega)), ent_eta]
theorem l113_ok (n : Nat) (c : List Ent) (t : Tm) (i : Int) (hl : c.length ≤ BIG) : ∀ (rest pre : List Ent) (m : Nat), c = pre ++ rest → rest.length < m →
    l54_1 n m c i t pre (pre.length : Int) = some (c ++ [Ent.mk t i]) := by
  intro rest
  induction rest with
  | nil =>
    intro pre m hk hm
    obtain ⟨m, rfl⟩ := fuel hm
    have hp : pre.length ≤ BIG := by rw [hk] at hl; simpa using hl
    simp only [l54_1, o54_1, decide_eq_true_eq, ifB_eq]
    rw [if_neg (ge_at hk), ckB_eq (by simpa using room64 hp), ent_eta, hk]; simp
  | cons x rest ih =>
    intro pre m hk hm
    obtain ⟨m, rfl⟩ := fuel hm
    simp only [List.length_cons] at hm
    have hp : pre.length ≤ BIG := by have := len_of_eq hk; omega
    simp only [l54_1, o54_1, decide_eq_true_eq, atI_at hk, ifB_eq]
    rw [if_pos (lt_at hk), ckB_eq (by simpa using room64 hp), ckI_eq (idx_ok hp), ent_eta, Ent.eta]
    have := ih (pre ++ [x]) m (next_at hk) (by omega)
    rw [len_snoc] at this
    exact this
theorem f54_ok' (n : Nat) (c : List Ent) (t : Tm) (i : Int) (hn : csize c < n) (hb : csize c ≤ BIG) : f54 n c t i = some (c ++ [Ent.mk t i]) := by
  have hl := csize_len c
  have := l113_ok n c t i (by omega) c [] n rfl (by omega)
  rw [len_nil] at this
  simp only [f54, o54_0, ifB_eq]
  exact this

/-! ## Entries -/
def typedB (j : Jd) (b : Bool) : Bool := (j.eq == b) && (decide (j.a.kind = 1) && decide (j.i = j.a.i + 1))
theorem f59_ok (j : Jd) (b : Bool) (h : -9223372036854775808 ≤ j.a.i + 1 ∧ j.a.i + 1 ≤ 9223372036854775807) : f59 j b = some (j.a.i, typedB j b) := by
  unfold f59 o59_0 typedB
  simp only [ifB_eq]
  cases j.eq == b with
  | false => rfl
  | true =>
    rw [if_pos rfl]
    by_cases h1 : j.a.kind = 1
    · rw [if_pos (by simpa using h1), ckI_eq h, decide_eq_true h1]; rfl
    · rw [if_neg (by simpa using h1), decide_eq_false h1]; rfl
def entryJ (r : Int) (j : Jd) : Ent × Bool :=
  if r = 3 ∨ r = 6 ∨ r = 4 then (Ent.mk j.u j.a.i, typedB j false) else if r = 25 ∨ r = 26 ∨ r = 27 ∨ r = 28 then (Ent.mk j.u j.a.i, typedB j true) else (Ent.mk j.a j.i, j.eq == decide (r = 23))
theorem o32_2_ok (j : Jd) (r : Int) (b : Bool) (z1 z2 z3 z4 z5 : Int) (hr : ¬ (r = 3 ∨ r = 6 ∨ r = 4)) (hb : b = decide (r = 25 ∨ r = 26 ∨ r = 27 ∨ r = 28)) (h : -9223372036854775808 ≤ j.a.i + 1 ∧ j.a.i + 1 ≤ 9223372036854775807) : c32_2 j z1 z2 z3 z4 z5 r b = some (entryJ r j) := by
  subst hb
  unfold c32_2 o32_2 entryJ
  simp only [ifB_eq, decide_eq_true_eq, Tm.eta]
  rw [if_neg hr]
  by_cases h1 : r = 25 ∨ r = 26 ∨ r = 27 ∨ r = 28
  · rw [if_pos h1, if_pos h1, f59_ok j true h, Option.bind_some]
  · rw [if_neg h1, if_neg h1]
    by_cases h2 : r = 23
    · rw [if_pos h2, decide_eq_true h2]; cases j.eq <;> rfl
    · rw [if_neg h2, decide_eq_false h2]; cases j.eq <;> rfl
theorem o32_1_ok (j : Jd) (r : Int) (b : Bool) (z1 z2 z3 z4 z5 : Int) (hb : b = decide (r = 3 ∨ r = 6 ∨ r = 4)) (h : -9223372036854775808 ≤ j.a.i + 1 ∧ j.a.i + 1 ≤ 9223372036854775807) : c32_1 j z1 z2 z3 z4 z5 r b = some (entryJ r j) := by
  subst hb
  unfold c32_1 o32_1
  simp only [ifB_eq, decide_eq_true_eq, Tm.eta]
  by_cases h1 : r = 3 ∨ r = 6 ∨ r = 4
  · rw [if_pos h1, f59_ok j false h, Option.bind_some]
    unfold entryJ
    rw [if_pos h1]
  · rw [if_neg h1]
    by_cases h25 : r = 25
    · rw [if_pos h25, o32_2_ok j r _ _ _ _ _ _ h1 (by simp [h25]) h]
    rw [if_neg h25]
    by_cases h26 : r = 26
    · rw [if_pos h26, o32_2_ok j r _ _ _ _ _ _ h1 (by simp [h26]) h]
    rw [if_neg h26]
    by_cases h27 : r = 27
    · rw [if_pos h27, o32_2_ok j r _ _ _ _ _ _ h1 (by simp [h27]) h]
    rw [if_neg h27, o32_2_ok j r _ _ _ _ _ _ h1 (by simp [h25, h26, h27]) h]
theorem f32_ok (r : Int) (j : Jd) (h : -9223372036854775808 ≤ j.a.i + 1 ∧ j.a.i + 1 ≤ 9223372036854775807) : f32 r j = some (entryJ r j) := by
  unfold f32 o32_0
  simp only [ifB_eq, decide_eq_true_eq]
  by_cases h3 : r = 3
  · rw [if_pos h3, o32_1_ok _ _ _ _ _ _ _ _ (by simp [h3]) h]
  rw [if_neg h3]
  by_cases h6 : r = 6
  · rw [if_pos h6, o32_1_ok _ _ _ _ _ _ _ _ (by simp [h6]) h]
  rw [if_neg h6, o32_1_ok _ _ _ _ _ _ _ _ (by simp [h3, h6]) h]

theorem node_i {t : Tm} (h : t.node = true) : 0 ≤ t.i ∧ t.i ≤ 2147483647 := by
  unfold Tm.node at h
  simp only [Bool.and_eq_true, decide_eq_true_eq] at h
  have h2 := h.2
  unfold tnums lev at h2
  by_cases k2 : t.kind = 2
  · rw [if_pos k2] at h2; simp only [Bool.and_eq_true, decide_eq_true_eq] at h2; omega
  rw [if_neg k2] at h2
  by_cases k3 : 3 ≤ t.kind ∧ t.kind ≤ 9
  · rw [if_pos k3] at h2; simp only [Bool.and_eq_true, decide_eq_true_eq] at h2; omega
  rw [if_neg k3] at h2
  by_cases k1 : t.kind = 1 ∨ t.kind = 10 ∨ t.kind = 11 ∨ t.kind = 12
  · rw [if_pos k1] at h2; simp only [Bool.and_eq_true, decide_eq_true_eq] at h2; omega
  rw [if_neg k1] at h2
  by_cases k4 : t.kind = 23
  · rw [if_pos k4] at h2; simp only [Bool.and_eq_true, decide_eq_true_eq] at h2; omega
  rw [if_neg k4] at h2; simp only [Bool.and_eq_true, decide_eq_true_eq] at h2; omega
theorem marked_node {t : Tm} (h : t.marked = true) : t.node = true := by
  rw [Tm.marked_eq] at h
  simp only [Bool.and_eq_true] at h
  exact h.2.1
theorem pure_marked {t : Tm} (h : t.pure = true) : t.marked = true := by
  unfold Tm.pure at h
  simp only [Bool.and_eq_true] at h
  exact h.1
theorem node_sort {t : Tm} (h : t.node = true) (hk : t.kind = 1) : t = Tm.mk 1 t.i 0 0 [] ∧ 0 ≤ t.i ∧ t.i ≤ 1000 := by
  have hn := node_nil h (.inl hk)
  unfold Tm.node at h
  simp only [Bool.and_eq_true, decide_eq_true_eq] at h
  have h2 := h.2
  unfold tnums lev at h2
  rw [if_neg (by omega), if_neg (by omega), if_pos (.inl hk)] at h2
  simp only [Bool.and_eq_true, decide_eq_true_eq] at h2
  refine ⟨?_, h2.1.1, h2.1.2⟩
  have e := Tm.eta t
  rw [hk, hn, h2.2.1, h2.2.2] at e
  exact e.symm
structure RJ (k : Int) (j : Jd) : Prop where
  i0 : 0 ≤ j.i
  i1 : j.i ≤ 1000
  u : j.u.pure = true
  uf : j.u.free ≤ k
  a : j.a.pure = true
  af : j.a.free ≤ k
theorem rightJ_RJ {k : Int} {j : Jd} (h : rightJ k j = true) : RJ k j := by
  unfold rightJ pf lev at h
  simp only [Bool.and_eq_true, decide_eq_true_eq] at h
  exact ⟨h.1.1, h.1.2, h.2.1.1, h.2.1.2, h.2.2.1.1, h.2.2.1.2⟩
theorem RJ.ai {k : Int} {j : Jd} (h : RJ k j) : 0 ≤ j.a.i ∧ j.a.i ≤ 2147483647 := node_i (marked_node (pure_marked h.a))
theorem f88_ok (n : Nat) (a b : Tm) (h : a.size < n) (hb : a.size ≤ BIG) : f88 n a b = some (a.same b) := by
  unfold f88 o88_0
  rw [f118_ok n a b h hb, Option.bind_some]
theorem typed_same {k : Int} {j : Jd} (h : RJ k j) : (1 ≤ j.i ∧ j.a.same (Tm.mk 1 (j.i - 1) 0 0 []) = true) ↔ (j.a.kind = 1 ∧ j.i = j.a.i + 1) := by
  constructor
  · rintro ⟨h1, h2⟩
    rw [(Tm.same_iff _ _).1 h2]
    exact ⟨rfl, by show j.i = j.i - 1 + 1; omega⟩
  · rintro ⟨h1, h2⟩
    obtain ⟨e, h3, h4⟩ := node_sort (marked_node (pure_marked h.a)) h1
    refine ⟨by omega, (Tm.same_iff _ _).2 ?_⟩
    rw [e]
    show Tm.mk 1 j.a.i 0 0 [] = Tm.mk 1 (j.i - 1) 0 0 []
    rw [h2, show j.a.i + 1 - 1 = j.a.i by omega]
theorem f53_ok (n : Nat) {k : Int} {j : Jd} (h : RJ k j) (b : Bool) (hn : j.a.size < n) (hb : j.a.size ≤ BIG) : f53 n j b = some (j.i - 1, typedB j b) := by
  have hi0 := h.i0
  have hi1 := h.i1
  have hs := typed_same h
  unfold f53 o53_0 typedB
  simp only [ifB_eq, f75, o75_0]
  rw [ckI_eq (by omega)]
  cases j.eq == b with
  | false => rfl
  | true =>
    rw [if_pos rfl]
    by_cases h1 : 1 ≤ j.i
    · rw [if_pos (by simpa using h1), ckI_eq (by omega), Option.bind_some, f88_ok n _ _ hn hb, Option.bind_some]
      congr 2
      rw [Bool.true_and, Bool.eq_iff_iff, Bool.and_eq_true, decide_eq_true_eq, decide_eq_true_eq, ← hs]
      exact ⟨fun h => ⟨h1, h⟩, fun h => h.2⟩
    · rw [if_neg (by simpa using h1)]
      congr 2
      rw [Bool.true_and]
      cases hc : decide (j.a.kind = 1) && decide (j.i = j.a.i + 1) with
      | false => rfl
      | true =>
        rw [Bool.and_eq_true, decide_eq_true_eq, decide_eq_true_eq, ← hs] at hc
        exact (h1 hc.1).elim
theorem typed_i {j : Jd} {b : Bool} (h : typedB j b = true) : j.i - 1 = j.a.i := by
  unfold typedB at h
  simp only [Bool.and_eq_true, decide_eq_true_eq] at h
  omega

/-! ## Premises -/
def premC (c : List Ent) (r k : Int) (js : List Jd) : List Ent × Bool :=
  if pureC c = false ∨ k < 0 ∨ rkids r ≤ k then ([], false)
  else if rinner r k = false then (c, true)
  else match js with
    | [] => ([], false)
    | j :: _ => if rightJ (c.length : Int) j = false ∨ (entryJ r j).2 = false then ([], false) else (c ++ [(entryJ r j).1], true)
theorem l59_ok (n : Nat) (c : List Ent) (hl : c.length ≤ BIG) (hc : ∀ e ∈ c, e.a.size < n ∧ e.a.size ≤ BIG) : ∀ (rest pre : List Ent) (m : Nat), c = pre ++ rest → rest.length < m →
    l44_2 n m pre c (c.length : Int) (pre.length : Int) = some (c, true) := by
  intro rest
  induction rest with
  | nil =>
    intro pre m hk hm
    obtain ⟨m, rfl⟩ := fuel hm
    simp only [l44_2, o44_2, decide_eq_true_eq, ifB_eq]
    rw [if_neg (ge_at hk), hk]; simp
  | cons x rest ih =>
    intro pre m hk hm
    obtain ⟨m, rfl⟩ := fuel hm
    simp only [List.length_cons] at hm
    have hp : pre.length ≤ BIG := by have := len_of_eq hk; omega
    obtain ⟨hx1, hx2⟩ := hc x (by rw [hk]; simp)
    simp only [l44_2, o44_2, decide_eq_true_eq, atI_at hk, ifB_eq]
    rw [if_pos (lt_at hk), f35_ok n x.a hx1 hx2, Option.bind_some, ckB_eq (by simpa using room64 hp), ckI_eq (idx_ok hp), ent_eta, Ent.eta]
    have := ih (pre ++ [x]) m (next_at hk) (by omega)
    rw [len_snoc] at this
    exact this
theorem f44_ok (n : Nat) (c : List Ent) (r k : Int) (js : List Jd) (hn : csize c < n) (hb : csize c ≤ BIG) (hj : ∀ j ∈ js, jsz j < n ∧ jsz j ≤ BIG) : f44 n c r k js = some (premC c r k js) := by
  have hl := csize_len c
  have hb2 := hb
  rw [BIG_eq] at hb2
  unfold f44 o44_0 c44_1 o44_1 premC
  simp only [ifB_eq, decide_eq_true_eq]
  rw [f29_ok n c hn hb, Option.bind_some]
  cases pureC c with
  | false => rw [if_pos (by simp), if_pos (.inl rfl)]
  | true =>
  rw [if_neg (by simp)]
  by_cases h1 : k < 0
  · rw [if_pos h1, if_pos (.inr (.inl h1))]
  rw [if_neg h1, f30_eq, Option.bind_some]
  by_cases h2 : rkids r ≤ k
  · rw [if_pos h2, if_pos (.inr (.inr h2))]
  have hG : ¬ (true = false ∨ k < 0 ∨ rkids r ≤ k) := fun h => h.elim (fun h => Bool.noConfusion h) (fun h => h.elim h1 h2)
  rw [if_neg h2, if_neg hG, f31_eq, Option.bind_some]
  cases rinner r k with
  | false =>
    rw [if_pos (by simp), if_pos rfl, ckB_eq (by simp only [Bool.and_eq_true, decide_eq_true_eq]; omega)]
    have := l59_ok n c (by omega) (fun e he => by have := csize_mem he; omega) c [] n rfl (by omega)
    rw [len_nil] at this
    exact this
  | true =>
    rw [if_neg (show ¬ ((!true) = true) by simp), if_neg (show ¬ (true = false) by simp)]
    match js, hj with
    | [], _ => rfl
    | j :: js, hj =>
      obtain ⟨hj1, hj2⟩ := hj j (by simp)
      show _ = some (if rightJ (c.length : Int) j = false ∨ (entryJ r j).2 = false then ([], false) else (c ++ [(entryJ r j).1], true))
      rw [if_neg (show ¬ (((j :: js).length : Int) = 0) by simp only [List.length_cons]; omega), atI_eq (x := j) (by omega) rfl, f33_ok n j _ hj1 hj2, Option.bind_some]
      unfold jsz at hj1 hj2
      cases hr : rightJ (c.length : Int) j with
      | false => rfl
      | true =>
        have hi := (rightJ_RJ hr).ai
        rw [if_neg (show ¬ ((!true) = true) by simp)]
        unfold c44_3 o44_3
        simp only [ifB_eq]
        rw [atI_eq (x := j) (by omega) rfl, f32_ok r j (by omega), Option.bind_some]
        cases he : (entryJ r j).2 with
        | false => rw [if_pos (by simp), if_pos (.inr rfl)]
        | true =>
          have hs : (entryJ r j).1.a.size ≤ j.u.size + j.v.size + j.a.size := by
            unfold entryJ
            by_cases h1 : r = 3 ∨ r = 6 ∨ r = 4
            · rw [if_pos h1]; show j.u.size ≤ _; omega
            rw [if_neg h1]
            by_cases h2 : r = 25 ∨ r = 26 ∨ r = 27 ∨ r = 28
            · rw [if_pos h2]; show j.u.size ≤ _; omega
            · rw [if_neg h2]; show j.a.size ≤ _; omega
          rw [if_neg (show ¬ ((!true) = true) by simp), f82_ok' n c _ _ hn hb (by omega) (by omega), Option.bind_some, Ent.eta]; simp

theorem o38_4_ok (n : Nat) (c : List Ent) (r : Int) (j : Jd) (b : Bool) (hn : csize c < n) (hb : csize c ≤ BIG) (hj : jsz j < n ∧ jsz j ≤ BIG) (hr : rightJ (c.length : Int) j = true) (h3 : ¬ (r = 3 ∨ r = 6 ∨ r = 4)) (hbb : b = decide (r = 25 ∨ r = 26 ∨ r = 27 ∨ r = 28)) :
    c38_4 n c r j b = some (if (entryJ r j).2 = false then ([], false) else (c ++ [(entryJ r j).1], true)) := by
  obtain ⟨hj1, hj2⟩ := hj
  unfold jsz at hj1 hj2
  subst hbb
  unfold c38_4 o38_4 entryJ
  simp only [ifB_eq, decide_eq_true_eq]
  rw [if_neg h3]
  by_cases h1 : r = 25 ∨ r = 26 ∨ r = 27 ∨ r = 28
  · rw [if_pos h1, if_pos h1, f53_ok n (rightJ_RJ hr) true (by omega) (by omega), Option.bind_some]
    cases ht : typedB j true with
    | false => rw [if_pos (by simp), if_pos rfl]
    | true => rw [if_neg (by simp), if_neg (by simp), f54_ok' n c _ _ hn hb, Option.bind_some, typed_i ht]
  · rw [if_neg h1, if_neg h1]
    cases ht : j.eq == decide (r = 23) with
    | false => rw [if_pos (by simp), if_pos rfl]
    | true => rw [if_neg (by simp), if_neg (by simp), f54_ok' n c _ _ hn hb, Option.bind_some]
theorem o38_3_ok (n : Nat) (c : List Ent) (r : Int) (j : Jd) (b : Bool) (hn : csize c < n) (hb : csize c ≤ BIG) (hj : jsz j < n ∧ jsz j ≤ BIG) (hr : rightJ (c.length : Int) j = true) (hbb : b = decide (r = 3 ∨ r = 6 ∨ r = 4)) :
    c38_3 n c r j r b = some (if (entryJ r j).2 = false then ([], false) else (c ++ [(entryJ r j).1], true)) := by
  have hj' := hj
  obtain ⟨hj1, hj2⟩ := hj
  unfold jsz at hj1 hj2
  subst hbb
  unfold c38_3 o38_3
  simp only [ifB_eq, decide_eq_true_eq]
  by_cases h1 : r = 3 ∨ r = 6 ∨ r = 4
  · rw [if_pos h1, f53_ok n (rightJ_RJ hr) false (by omega) (by omega), Option.bind_some]
    unfold entryJ
    rw [if_pos h1]
    cases ht : typedB j false with
    | false => rw [if_pos (by simp), if_pos rfl]
    | true => rw [if_neg (by simp), if_neg (by simp), f54_ok' n c _ _ hn hb, Option.bind_some, typed_i ht]
  · rw [if_neg h1]
    by_cases h25 : r = 25
    · rw [if_pos h25, o38_4_ok n c r j _ hn hb hj' hr h1 (by simp [h25])]
    rw [if_neg h25]
    by_cases h26 : r = 26
    · rw [if_pos h26, o38_4_ok n c r j _ hn hb hj' hr h1 (by simp [h26])]
    rw [if_neg h26]
    by_cases h27 : r = 27
    · rw [if_pos h27, o38_4_ok n c r j _ hn hb hj' hr h1 (by simp [h27])]
    rw [if_neg h27, o38_4_ok n c r j _ hn hb hj' hr h1 (by simp [h25, h26, h27])]
theorem f38_ok (n : Nat) (c : List Ent) (r k : Int) (js : List Jd) (hn : csize c < n) (hb : csize c ≤ BIG) (hj : ∀ j ∈ js, jsz j < n ∧ jsz j ≤ BIG) : f38 n c r k js = some (premC c r k js) := by
  have hl := csize_len c
  have hb2 := hb
  rw [BIG_eq] at hb2
  unfold f38 o38_0 c38_1 o38_1 premC
  simp only [ifB_eq, decide_eq_true_eq]
  rw [f36_ok n c hn hb, Option.bind_some]
  cases pureC c with
  | false => rw [if_pos (by simp), if_pos (.inl rfl)]
  | true =>
  rw [if_neg (by simp)]
  by_cases h1 : k < 0
  · rw [if_pos h1, if_pos (.inr (.inl h1))]
  rw [if_neg h1, f37_eq, Option.bind_some]
  by_cases h2 : rkids r ≤ k
  · rw [if_pos h2, if_pos (.inr (.inr h2))]
  have hG : ¬ (true = false ∨ k < 0 ∨ rkids r ≤ k) := fun h => h.elim (fun h => Bool.noConfusion h) (fun h => h.elim h1 h2)
  rw [if_neg h2, if_neg hG, f71_eq, Option.bind_some]
  cases rinner r k with
  | false =>
    rw [if_pos (by simp), if_pos rfl, f54_ok' n c _ _ hn hb, Option.bind_some, ckB_eq (by simp; omega)]
    simp
  | true =>
    rw [if_neg (show ¬ ((!true) = true) by simp), if_neg (show ¬ (true = false) by simp)]
    match js, hj with
    | [], _ => rfl
    | j :: js, hj =>
      have hjj := hj j (by simp)
      show _ = some (if rightJ (c.length : Int) j = false ∨ (entryJ r j).2 = false then ([], false) else (c ++ [(entryJ r j).1], true))
      rw [if_neg (show ¬ (((j :: js).length : Int) < 1) by simp only [List.length_cons]; omega), atI_eq (x := j) (by omega) rfl, f39_ok n j _ hjj.1 hjj.2, Option.bind_some]
      cases hr : rightJ (c.length : Int) j with
      | false => rfl
      | true =>
        rw [if_neg (show ¬ ((!true) = true) by simp)]
        unfold c38_2 o38_2
        simp only [ifB_eq, decide_eq_true_eq]
        rw [atI_eq (x := j) (by omega) rfl]
        have e : (if true = false ∨ (entryJ r j).2 = false then (([] : List Ent), false) else (c ++ [(entryJ r j).1], true)) = if (entryJ r j).2 = false then ([], false) else (c ++ [(entryJ r j).1], true) := by simp
        rw [e]
        by_cases h3 : r = 3
        · rw [if_pos h3, o38_3_ok n c r j _ hn hb hjj hr (by simp [h3])]
        rw [if_neg h3]
        by_cases h6 : r = 6
        · rw [if_pos h6, o38_3_ok n c r j _ hn hb hjj hr (by simp [h6])]
        rw [if_neg h6, o38_3_ok n c r j _ hn hb hjj hr (by simp [h3, h6])]
end Go.Proofs.YtcaahmielncmpaaGreat
