/-
  Plain facts on what the functions compute.
-/
import Derived.Test.YtcaahmielncmpaaGreatPlV
import Derived.Test.YtcaahmielncmpaaGreatGenC
set_option linter.unusedSimpArgs false
set_option linter.unusedVariables false
namespace Go.Proofs.YtcaahmielncmpaaGreat
open Go

/-! ## Contexts -/
theorem Ent.eta (e : Ent) : Ent.mk e.a e.i = e := by cases e; rfl
theorem ent_eta (x : Tm) (i : Int) : Ent.mk (Tm.mk x.kind x.i x.j x.n x.kids) i = Ent.mk x i := by rw [Tm.eta]

def csize : List Ent → Nat
  | [] => 0
  | e :: r => e.a.size + csize r
theorem csize_mem {e : Ent} : ∀ {c : List Ent}, e ∈ c → e.a.size ≤ csize c
  | [], h => by cases h
  | x :: r, h => by
    simp only [csize]
    rcases List.mem_cons.1 h with rfl | h
    · omega
    · have := csize_mem h; omega
theorem csize_len : ∀ (c : List Ent), c.length ≤ csize c
  | [] => by simp
  | x :: r => by
    have := csize_len r
    have := Tm.size_pos x.a
    simp only [csize, List.length_cons]; omega
theorem csize_append : ∀ (a b : List Ent), csize (a ++ b) = csize a + csize b
  | [], b => by simp [csize]
  | x :: a, b => by simp only [List.cons_append, csize, csize_append a b]; omega

/-! ### right -/
def rightC : Nat → List Ent → Bool
  | _, [] => true
  | k, e :: r => lev e.i && (e.a.marked && (decide (e.a.free ≤ (k : Int)) && rightC (k + 1) r))
theorem marked_right {t : Tm} (h : t.marked = true) : t.right = true := by unfold Tm.right; rw [h]; rfl

theorem l41_ok (n : Nat) (c : List Ent) (hl : c.length ≤ BIG) : ∀ (rest pre : List Ent) (m : Nat), c = pre ++ rest → rest.length < m → (∀ e ∈ rest, e.a.size < n ∧ e.a.size ≤ BIG) →
    l57_1 n m c (c.length : Int) (pre.length : Int) = some (rightC pre.length rest) := by
  intro rest
  induction rest with
  | nil =>
    intro pre m hk hm _
    obtain ⟨m, rfl⟩ := fuel hm
    simp only [l57_1, o57_1, decide_eq_true_eq, ifB_eq]
    rw [if_neg (ge_at hk)]
    rfl
  | cons x rest ih =>
    intro pre m hk hm hs
    obtain ⟨m, rfl⟩ := fuel hm
    simp only [List.length_cons] at hm
    have hp : pre.length ≤ BIG := by rw [hk] at hl; simp at hl; omega
    obtain ⟨hx1, hx2⟩ := hs x (by simp)
    simp only [l57_1, o57_1, decide_eq_true_eq, rightC, lev, ifB_eq]
    rw [if_pos (lt_at hk), atI_at hk]
    by_cases h1 : x.i < 0
    · rw [if_pos h1, decide_eq_false (by omega)]; rfl
    rw [if_neg h1]
    by_cases h2 : 1000 < x.i
    · rw [if_pos h2, decide_eq_false (p := x.i ≤ 1000) (by omega)]; simp
    rw [if_neg h2, f89_ok n x.a hx1 hx2, Option.bind_some, decide_eq_true (p := 0 ≤ x.i) (by omega), decide_eq_true (p := x.i ≤ 1000) (by omega)]
    cases hm' : x.a.marked with
    | false => rfl
    | true =>
      rw [if_neg (by simp), f61_ok n x.a hx1 hx2, if_pos (marked_right hm'), Option.bind_some]
      by_cases h3 : (pre.length : Int) < x.a.free
      · rw [if_pos h3, decide_eq_false (p := x.a.free ≤ (pre.length : Int)) (by omega)]; rfl
      · rw [if_neg h3, ckI_eq (idx_ok hp), decide_eq_true (p := x.a.free ≤ (pre.length : Int)) (by omega)]
        have := ih (pre ++ [x]) m (next_at hk) (by omega) (fun e he => hs e (by simp [he]))
        rw [len_snoc] at this
        rw [this]
        simp
theorem f57_ok (n : Nat) (c : List Ent) (hn : csize c < n) (hb : csize c ≤ BIG) : f57 n c = some (rightC 0 c) := by
  have hl := csize_len c
  have := l41_ok n c (by omega) c [] n rfl (by omega) (fun e he => by have := csize_mem he; omega)
  rw [len_nil] at this
  simp only [f57, o57_0, ifB_eq]
  exact this

theorem f41_eq (k : Int) : f41 k = some (lev k) := by
  unfold f41 o41_0 lev
  simp only [ifB_eq]
  by_cases h : 0 ≤ k
  · rw [if_pos (by simpa using h), decide_eq_true h]; simp
  · rw [if_neg (by simpa using h), decide_eq_false h]; rfl

theorem l42_ok (n : Nat) (c : List Ent) (hl : c.length ≤ BIG) : ∀ (rest pre : List Ent) (m : Nat), c = pre ++ rest → rest.length < m → (∀ e ∈ rest, e.a.size < n ∧ e.a.size ≤ BIG) →
    l70_1 n m c (pre.length : Int) = some (rightC pre.length rest) := by
  intro rest
  induction rest with
  | nil =>
    intro pre m hk hm _
    obtain ⟨m, rfl⟩ := fuel hm
    simp only [l70_1, o70_1, decide_eq_true_eq, ifB_eq]
    rw [if_neg (ge_at hk)]
    rfl
  | cons x rest ih =>
    intro pre m hk hm hs
    obtain ⟨m, rfl⟩ := fuel hm
    simp only [List.length_cons] at hm
    have hp : pre.length ≤ BIG := by rw [hk] at hl; simp at hl; omega
    obtain ⟨hx1, hx2⟩ := hs x (by simp)
    simp only [l70_1, o70_1, decide_eq_true_eq, rightC, atI_at hk, ifB_eq]
    rw [if_pos (lt_at hk), f41_eq, Option.bind_some]
    cases hlev : lev x.i with
    | false => rfl
    | true =>
      rw [if_neg (by simp), f106_ok n x.a hx1 hx2, Option.bind_some]
      cases hm' : x.a.marked with
      | false => rfl
      | true =>
        rw [if_neg (by simp), f72_ok n x.a hx1 hx2, if_pos (marked_right hm'), Option.bind_some]
        by_cases h3 : (pre.length : Int) < x.a.free
        · rw [if_pos h3, decide_eq_false (p := x.a.free ≤ (pre.length : Int)) (by omega)]; rfl
        · rw [if_neg h3, ckI_eq (idx_ok hp), decide_eq_true (p := x.a.free ≤ (pre.length : Int)) (by omega)]
          have := ih (pre ++ [x]) m (next_at hk) (by omega) (fun e he => hs e (by simp [he]))
          rw [len_snoc] at this
          rw [this]
          simp
theorem f70_ok (n : Nat) (c : List Ent) (hn : csize c < n) (hb : csize c ≤ BIG) : f70 n c = some (rightC 0 c) := by
  have hl := csize_len c
  have := l42_ok n c (by omega) c [] n rfl (by omega) (fun e he => by have := csize_mem he; omega)
  rw [len_nil] at this
  simp only [f70, o70_0, ifB_eq]
  exact this

theorem rightC_get : ∀ {c : List Ent} {k j : Nat} {e : Ent}, rightC k c = true → c[j]? = some e → lev e.i = true ∧ e.a.marked = true ∧ e.a.free ≤ ((k + j : Nat) : Int)
  | [], _, _, _, _, h => by simp at h
  | x :: r, k, 0, e, h, he => by
    simp only [rightC, Bool.and_eq_true, decide_eq_true_eq] at h
    simp at he; subst he
    exact ⟨h.1, h.2.1, by simpa using h.2.2.1⟩
  | x :: r, k, j + 1, e, h, he => by
    simp only [rightC, Bool.and_eq_true] at h
    have := rightC_get (c := r) (k := k + 1) (j := j) h.2.2.2 (by simpa using he)
    rwa [show k + 1 + j = k + (j + 1) by omega] at this

/-! ### at -/
theorem tzero_size : tzero.size = 1 := by simp [tzero, Tm.size, Tm.sizes]
def atC (c : List Ent) (k : Int) : Tm × Int × Bool :=
  if k < 0 ∨ (c.length : Int) ≤ k ∨ rightC 0 c = false then (tzero, 0, false)
  else match c[((c.length : Int) - 1 - k).toNat]? with
    | some e => (Tm.liftZ (k + 1) 0 e.a, e.i, true)
    | none => (tzero, 0, false)
theorem f64_ok (n : Nat) (c : List Ent) (k : Int) (hn : csize c < n) (hb : csize c ≤ BIG) : f64 n c k = some (atC c k) := by
  have hl := csize_len c
  have hBl : (c.length : Int) ≤ 1000000000000 := by rw [BIG_eq] at hb; omega
  simp only [f64, o64_0, c64_1, o64_1, decide_eq_true_eq, ifB_eq]
  unfold atC
  by_cases h1 : k < 0
  · rw [if_pos h1, if_pos (.inl h1)]; rfl
  rw [if_neg h1]
  by_cases h2 : (c.length : Int) ≤ k
  · rw [if_pos h2, if_pos (.inr (.inl h2))]; rfl
  rw [if_neg h2, f57_ok n c hn hb, Option.bind_some]
  cases hr : rightC 0 c with
  | false => rw [if_pos (by simp), if_pos (.inr (.inr rfl))]; rfl
  | true =>
    have hlt : ((c.length : Int) - 1 - k).toNat < c.length := by omega
    have hget := List.getElem?_eq_getElem hlt
    have hsz := csize_mem (List.mem_of_getElem? hget)
    rw [if_neg (by simp), ckI_eq (by omega), ckI_eq (by omega), atI_eq (by omega) hget, ckI_eq (by omega), f93_ok n _ (k + 1) 0 (by omega) (by omega) (by omega), Option.bind_some, if_neg (by simp; omega), hget]
theorem f76_ok (n : Nat) (c : List Ent) (k : Int) (hn : csize c < n) (hb : csize c ≤ BIG) : f76 n c k = some (atC c k) := by
  have hl := csize_len c
  have hBl : (c.length : Int) ≤ 1000000000000 := by rw [BIG_eq] at hb; omega
  simp only [f76, o76_0, c76_1, o76_1, decide_eq_true_eq, ifB_eq]
  unfold atC
  by_cases h1 : k < 0
  · rw [if_pos h1, if_pos (.inl h1)]; rfl
  rw [if_neg h1]
  by_cases h2 : (c.length : Int) ≤ k
  · rw [if_pos h2, if_pos (.inr (.inl h2))]; rfl
  rw [if_neg h2, f70_ok n c hn hb, Option.bind_some]
  cases hr : rightC 0 c with
  | false => rw [if_pos (by simp), if_pos (.inr (.inr rfl))]; rfl
  | true =>
    have hlt : ((c.length : Int) - 1 - k).toNat < c.length := by omega
    have hget := List.getElem?_eq_getElem hlt
    have hsz := csize_mem (List.mem_of_getElem? hget)
    rw [if_neg (by simp), ckI_eq (by omega), ckI_eq (by omega), atI_eq (by omega) hget, ckI_eq (by omega), f110_ok n _ (k + 1) 0 (by omega) (by omega) (by omega) (by omega), Option.bind_some, if_neg (by simp; omega), hget]

/-! ### same -/
def sameC : List Ent → List Ent → Bool
  | [], [] => true
  | a :: l, b :: r => decide (a.i = b.i) && (a.a.same b.a && sameC l r)
  | _, _ => false
theorem sameC_iff : ∀ a b : List Ent, sameC a b = true ↔ a = b
  | [], [] => by simp [sameC]
  | [], _ :: _ => by simp [sameC]
  | _ :: _, [] => by simp [sameC]
  | a :: l, b :: r => by
    simp only [sameC, Bool.and_eq_true, decide_eq_true_eq, Tm.same_iff, sameC_iff l r, List.cons.injEq]
    constructor
    · rintro ⟨h1, h2, h3⟩
      exact ⟨by rw [← Ent.eta a, ← Ent.eta b, h1, h2], h3⟩
    · rintro ⟨rfl, h⟩
      exact ⟨rfl, rfl, h⟩
theorem sameC_refl (a : List Ent) : sameC a a = true := (sameC_iff a a).2 rfl
theorem sameC_len {a b : List Ent} (h : a.length ≠ b.length) : sameC a b = false := by
  cases hs : sameC a b with
  | false => rfl
  | true => rw [(sameC_iff a b).1 hs] at h; exact (h rfl).elim

theorem l47_ok (n : Nat) (c d : List Ent) (hl : c.length ≤ BIG) (hcd : c.length = d.length) : ∀ (r r' pre pre' : List Ent) (m : Nat), c = pre ++ r → d = pre' ++ r' → pre.length = pre'.length → r.length < m → (∀ e ∈ r, 2 * e.a.size < n ∧ e.a.size ≤ BIG) →
    l12_1 n m c d (pre.length : Int) = some (sameC r r') := by
  intro r
  induction r with
  | nil =>
    intro r' pre pre' m hk hk' hp hm _
    obtain ⟨m, rfl⟩ := fuel hm
    have hr' : r' = [] := by
      apply List.eq_nil_of_length_eq_zero
      rw [hk, hk'] at hcd; simp at hcd; omega
    subst hr'
    simp only [l12_1, o12_1, decide_eq_true_eq, ifB_eq]
    rw [if_neg (ge_at hk)]; rfl
  | cons x r ih =>
    intro r' pre pre' m hk hk' hp hm hs
    obtain ⟨m, rfl⟩ := fuel hm
    simp only [List.length_cons] at hm
    have hpb : pre.length ≤ BIG := by rw [hk] at hl; simp at hl; omega
    obtain ⟨hx1, hx2⟩ := hs x (by simp)
    match r', hk' with
    | [], hk' => rw [hk, hk'] at hcd; simp at hcd; omega
    | y :: r', hk' =>
      have hy : ∀ k : Ent → Option Bool, atI d (pre.length : Int) k = k y := fun k => by rw [hp]; exact atI_at hk' k
      simp only [l12_1, o12_1, decide_eq_true_eq, sameC, atI_at hk, hy, ifB_eq]
      rw [if_pos (lt_at hk)]
      by_cases h1 : x.i = y.i
      · rw [if_neg (by simpa using h1), f43_ok n x.a y.a hx1 hx2, Option.bind_some, decide_eq_true h1]
        cases x.a.same y.a with
        | false => rfl
        | true =>
          rw [if_neg (by simp), ckI_eq (idx_ok hpb)]
          have := ih r' (pre ++ [x]) (pre' ++ [y]) m (next_at hk) (next_at hk') (by simp [hp]) (by omega) (fun e he => hs e (by simp [he]))
          rw [len_snoc] at this
          rw [this]; simp
      · rw [if_pos (by simpa using h1), decide_eq_false h1]; rfl
theorem f12_ok (n : Nat) (c d : List Ent) (hn : 2 * csize c < n) (hb : csize c ≤ BIG) : f12 n c d = some (sameC c d) := by
  have hl := csize_len c
  simp only [f12, o12_0, ifB_eq]
  by_cases h : c.length = d.length
  · have := l47_ok n c d (by omega) h c d [] [] n rfl rfl rfl (by omega) (fun e he => by have := csize_mem he; omega)
    rw [len_nil] at this
    rw [if_neg (by simp [h]), this]
  · rw [if_pos (by simp; omega), sameC_len h]

theorem room64 {n : Nat} (h : n ≤ BIG) : (decide ((n + 1) * 64 ≤ 140737488355328) && decide (n + 1 ≤ 9223372036854775807)) = true := by
  rw [BIG_eq] at h
  simp only [Bool.and_eq_true, decide_eq_true_eq]; omega
/-! ### judgments -/
theorem Jd.eta (j : Jd) : Jd.mk j.eq j.u j.v j.a j.i = j := by cases j; rfl
def sameJ (a b : Jd) : Bool := (a.eq == b.eq) && (decide (a.i = b.i) && (a.u.same b.u && (a.v.same b.v && a.a.same b.a)))
theorem sameJ_iff (a b : Jd) : sameJ a b = true ↔ a = b := by
  unfold sameJ
  simp only [Bool.and_eq_true, decide_eq_true_eq, Tm.same_iff, beq_iff_eq]
  constructor
  · rintro ⟨h1, h2, h3, h4, h5⟩
    rw [← Jd.eta a, ← Jd.eta b, h1, h2, h3, h4, h5]
  · rintro rfl; simp
theorem sameJ_refl (a : Jd) : sameJ a a = true := (sameJ_iff a a).2 rfl
theorem f11_ok (n : Nat) (a b : Jd) (hn : 2 * (a.u.size + a.v.size + a.a.size) < n) (hb : a.u.size + a.v.size + a.a.size ≤ BIG) : f11 n a b = some (sameJ a b) := by
  simp only [f11, o11_0, decide_eq_true_eq, sameJ, ifB_eq]
  cases h1 : a.eq == b.eq with
  | false => rw [if_neg (by simp)]; rfl
  | true =>
    rw [if_pos rfl]
    by_cases h2 : a.i = b.i
    · rw [if_pos h2, decide_eq_true h2, f43_ok n a.u b.u (by omega) (by omega), Option.bind_some]
      cases a.u.same b.u with
      | false => rfl
      | true =>
        rw [if_pos rfl, f43_ok n a.v b.v (by omega) (by omega), Option.bind_some]
        cases a.v.same b.v with
        | false => rfl
        | true => rw [if_pos rfl, f43_ok n a.a b.a (by omega) (by omega), Option.bind_some]; rfl
    · rw [if_neg h2, decide_eq_false h2]; rfl
end Go.Proofs.YtcaahmielncmpaaGreat
