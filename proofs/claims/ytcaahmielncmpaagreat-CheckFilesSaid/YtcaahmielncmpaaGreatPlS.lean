/-
  Plain facts on what the functions compute.
-/
import Derived.Test.YtcaahmielncmpaaGreatPlR
set_option linter.unusedSimpArgs false
set_option linter.unusedVariables false
namespace Go.Proofs.YtcaahmielncmpaaGreat
open Go
def md (kd i : Int) : Bool := decide (12 < kd) || (decide (kd = 12) && decide (i = 2))
theorem f140_eq (t : Tm) (i : Int) : f140 t i = some (md t.kind i) := by
  unfold f140 o140_0 md
  simp only [ifB_eq]
  grind
theorem f139_ok (n : Nat) (x : Tm) (d : Int) (p : Bool) (hx : x.right = true) (hs : x.size + 5 < n) (hb : x.size ≤ BIG) (hd : 0 ≤ d) (hd2 : d ≤ 1000000000) : f139 n x d p = some (out2 (Tm.lift d 0 (if p = true then x.strip else x))) := by
  have hBig := BIG_eq
  have hz := Tm.strip_size' x hx
  cases p with
  | true =>
    simp only [f139, o139_0, c139_1, o139_1, ifB_eq]
    have e : x.stripZ = x.strip := by unfold Tm.stripZ; rw [if_pos hx]
    rw [if_pos trivial, f146_ok n x hs hb, Option.bind_some, e, f128_ok d hd (by omega) n _ 0 (by omega) (by omega) (right_p (Tm.right_strip x hx)) (by omega) (by omega), if_pos trivial]
    rfl
  | false =>
    simp only [f139, o139_0, c139_1, o139_1, ifB_eq]
    rw [if_neg (by simp), f128_ok d hd (by omega) n x 0 (by omega) hb hx (by omega) (by omega), if_neg (by simp)]
    rfl
theorem markeds_get {k : Int} {l : List Tm} : ∀ {i j : Nat} {x : Tm}, Tm.markeds k i l = true → l[j]? = some x → (if k = 12 ∧ i + j = 2 then x.plain else x.marked) = true := by
  induction l with
  | nil => intro i j x _ h; simp at h
  | cons y ys ih =>
    intro i j x hm h
    simp only [Tm.markeds, Bool.and_eq_true] at hm
    cases j with
    | zero => simp at h; subst h; exact hm.1
    | succ j =>
      have := ih hm.2 (by simpa using h : ys[j]? = some x)
      rwa [show i + 1 + j = i + (j + 1) by omega] at this
theorem low_marked {t : Tm} (hr : t.right = true) (h : t.kind = 1 ∨ t.kind = 2) : t.marked = true := by
  have hn := node_nil (Tm.right_node hr) h
  rw [Tm.marked_eq, Tm.right_node hr, hn]
  rcases h with h | h <;> rw [h] <;> rfl
theorem f129_ok (n : Nat) (t v : Tm) (ht : t.size < n) (hv : v.size < n) (htb : t.size ≤ BIG) (hvb : v.size ≤ BIG) (hr : t.right = true) : f129 n t v = some (okv t v) := by
  simp only [f129, o129_0, ifB_eq]
  rw [f108_ok n v hv hvb, f126_ok n t ht htb, f106_ok n v hv hvb, Option.bind_some, Option.bind_some, Option.bind_some]
  unfold okv
  cases hvr : v.right with
  | false => rfl
  | true =>
    rw [if_pos rfl]
    simp only [decide_eq_true_eq, Bool.true_and]
    by_cases h1 : t.kind = 1
    · rw [if_pos h1]; simp [h1]
    rw [if_neg h1]
    by_cases h2 : t.kind = 2
    · rw [if_pos h2]; simp [h2]
    rw [if_neg h2]
    by_cases h3 : t.plain = true
    · have := plain_kind' h3
      rw [if_pos h3, decide_eq_true (show 13 ≤ t.kind by omega)]; simp
    · rw [if_neg h3]
      have hm : t.marked = true := by
        unfold Tm.right at hr
        rcases Bool.or_eq_true_iff.1 hr with h | h
        · exact h
        · exact absurd h h3
      have hk := marked_kind hm
      have e : (decide (t.kind = 1) || decide (t.kind = 2) || decide (13 ≤ t.kind)) = false := by simp [h1, h2]; omega
      rw [e, Bool.false_or]
      congr 1
      by_cases hvm : v.marked = true
      · have := marked_kind hvm
        rw [hvm, decide_eq_true (by omega)]
      · rw [Bool.eq_false_iff.2 hvm, decide_eq_false]
        intro h13
        have hvr' := hvr
        unfold Tm.right at hvr'
        rcases Bool.or_eq_true_iff.1 hvr' with h | h
        · exact hvm h
        · rcases plain_kind' h with h | h | h
          · exact hvm (low_marked hvr (.inl h))
          · exact hvm (low_marked hvr (.inr h))
          · omega
theorem Tm.lift_size (k : Int) : ∀ (n : Nat) (t : Tm) (f : Int) (y : Tm), t.size < n → Tm.lift k f t = some y → y.size = t.size
  | 0, t, f, y, h, _ => by omega
  | n + 1, t, f, y, h, hy => by
    rw [Tm.lift_eq] at hy
    by_cases hk : t.kind = 2
    · rw [if_pos hk] at hy
      by_cases hd : f ≤ t.i
      · rw [if_pos hd] at hy
        by_cases h2 : 2147483647 - t.i < k
        · rw [if_pos h2] at hy; simp at hy
        · rw [if_neg h2] at hy; simp at hy; subst hy; rw [Tm.size_eq, Tm.size_eq t]; rfl
      · rw [if_neg hd] at hy
        simp at hy
        rw [hy]
    · rw [if_neg hk] at hy
      cases hl : kidsM (fun i x => Tm.lift k (f + tbinds t.kind i) x) 0 t.kids with
      | none => rw [hl] at hy; simp at hy
      | some l =>
        rw [hl] at hy
        simp at hy
        subst hy
        have := kidsM_size hl (fun j x y hx hxy => Tm.lift_size k n x _ y (by have := Tm.size_kid hx; omega) hxy)
        rw [Tm.size_eq, Tm.size_eq t, ← this]; rfl
theorem kidsM_size2 {go : Nat → Tm → Option Tm} {M : Nat} : ∀ {i : Nat} {l ys : List Tm}, kidsM go i l = some ys → (∀ (j : Nat) x y, x ∈ l → go j x = some y → y.size ≤ x.size * M) → Tm.sizes ys ≤ Tm.sizes l * M
  | _, [], ys, h, _ => by simp [kidsM] at h; subst h; simp [Tm.sizes]
  | i, x :: xs, ys, h, hg => by
    simp only [kidsM] at h
    cases h1 : go i x with
    | none => rw [h1] at h; simp at h
    | some y =>
      cases h2 : kidsM go (i + 1) xs with
      | none => rw [h1, h2] at h; simp at h
      | some zs =>
        rw [h1, h2] at h
        simp at h
        subst h
        have a1 := hg i x y (by simp) h1
        have a2 := kidsM_size2 h2 (fun j x y hx => hg j x y (by simp [hx]))
        simp only [Tm.sizes, Nat.add_mul]
        omega
end Go.Proofs.YtcaahmielncmpaaGreat
