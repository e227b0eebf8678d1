/-
  Plain facts on what the functions compute.
-/
import Derived.Test.YtcaahmielncmpaaGreatRuB
set_option linter.unusedSimpArgs false
set_option linter.unusedVariables false
namespace Go.Proofs.YtcaahmielncmpaaGreat
open Go

def zeroJ : Jd := Jd.mk false tzero tzero tzero 0
def premOk (c : List Ent) (r : Int) (j0 : Jd) : Nat → List Jd → Bool
  | _, [] => true
  | i, j :: rest => (if rinner r (i : Nat) = true then (entryJ r j0).2 && rightJ ((c.length : Int) + 1) j else rightJ (c.length : Int) j) && premOk c r j0 (i + 1) rest
theorem rinner_zero (r : Int) : rinner r 0 = false := by
  unfold rinner
  by_cases h1 : r = 3 ∨ r = 6 ∨ r = 4 ∨ r = 7 ∨ r = 19 ∨ r = 20 ∨ r = 18 ∨ r = 23 ∨ r = 25 ∨ r = 26 ∨ r = 28
  · rw [if_pos h1]; rfl
  rw [if_neg h1]
  by_cases h2 : r = 27
  · rw [if_pos h2]; rfl
  · rw [if_neg h2]
theorem c9_4_ok (n : Nat) (z0 : Bool) (z1 z2 z3 z4 z5 z6 z7 z8 z9 z10 z11 z12 z13 : Int) (j : Jd) (h : jsz j < n) (hb : jsz j ≤ BIG) : c9_4 n z0 z1 z2 z3 z4 z5 z6 z7 z8 z9 z10 z11 z12 z13 j = some (j, true) := by
  unfold jsz at h hb
  unfold c9_4 o9_4
  rw [f35_ok n j.u (by omega) (by omega), Option.bind_some, f35_ok n j.v (by omega) (by omega), Option.bind_some, f35_ok n j.a (by omega) (by omega), Option.bind_some, jd_eta, Jd.eta]
def finO (n : Nat) (c : List Ent) (r k : Int) (js : List Jd) : Option (Jd × Bool) :=
  (f34 n c r k js).bind fun x => if x.2 = false ∨ 1000 < x.1.i then some (zeroJ, false) else c9_4 n false 0 0 0 0 0 0 0 0 0 0 0 0 0 x.1
theorem l62_ok (n : Nat) (c : List Ent) (r k : Int) (js : List Jd) (j0 : Jd) (hl : js.length ≤ BIG) (hcl : c.length ≤ BIG) (h0 : js = [] ∨ js[0]? = some j0) (hj : ∀ j ∈ js, jsz j < n ∧ jsz j ≤ BIG) : ∀ (rest pre : List Jd) (m : Nat), js = pre ++ rest → rest.length < m → (pre = [] ∨ rightJ (c.length : Int) j0 = true) →
    l9_2 n m c r k js false 0 0 0 0 0 0 0 0 0 0 0 0 0 js (js.length : Int) (pre.length : Int) = if premOk c r j0 pre.length rest = true then finO n c r k js else some (zeroJ, false) := by
  intro rest
  induction rest with
  | nil =>
    intro pre m hk hm _
    obtain ⟨m, rfl⟩ := fuel hm
    simp only [l9_2, o9_2, decide_eq_true_eq, ifB_eq]
    rw [if_neg (ge_at hk)]
    unfold premOk finO
    rw [if_pos rfl]
    congr 1
    funext x
    cases hx : x.2 with
    | false => rw [if_pos (by simp), if_pos (.inl rfl)]; rfl
    | true =>
      rw [if_neg (by simp)]
      by_cases h : 1000 < x.1.i
      · rw [if_pos h, if_pos (.inr h)]; rfl
      · rw [if_neg h, if_neg (by simp; omega)]
  | cons x rest ih =>
    intro pre m hk hm hp0
    obtain ⟨m, rfl⟩ := fuel hm
    simp only [List.length_cons] at hm
    have hp : pre.length ≤ BIG := by have := len_of_eq hk; omega
    obtain ⟨hx1, hx2⟩ := hj x (by rw [hk]; simp)
    have h0' : js[0]? = some j0 := by
      rcases h0 with h | h
      · rw [h] at hk; simp at hk
      · exact h
    have h0m : ∀ K : Jd → Option (Jd × Bool), atI js 0 K = K j0 := fun K => atI_eq (x := j0) (by omega) h0'
    have hstep : ∀ K : Int, f33 n x K = some (rightJ K x) := fun K => f33_ok n x K hx1 hx2
    have hnext : (pre = [] ∨ rightJ (c.length : Int) j0 = true) → ((rinner r (pre.length : Nat) = true) ∨ rightJ (c.length : Int) x = true) → rightJ (c.length : Int) j0 = true := by
      rintro (h | h) h2
      · subst h
        rw [hk] at h0'
        simp at h0'
        subst h0'
        rcases h2 with h2 | h2
        · have := rinner_zero r
          simp at h2
          rw [this] at h2; cases h2
        · exact h2
      · exact h
    have hB := hcl
    rw [BIG_eq] at hB
    simp only [l9_2, o9_2, decide_eq_true_eq, ifB_eq, c9_3, o9_3]
    have hP : premOk c r j0 pre.length (x :: rest) = ((if rinner r (pre.length : Nat) = true then (entryJ r j0).2 && rightJ ((c.length : Int) + 1) x else rightJ (c.length : Int) x) && premOk c r j0 (pre.length + 1) rest) := rfl
    rw [hP, if_pos (lt_at hk), atI_at hk, f31_eq, Option.bind_some]
    by_cases hi : rinner r (pre.length : Nat) = true
    case neg =>
      rw [if_neg hi, if_neg hi, hstep, Option.bind_some]
      cases hr : rightJ (c.length : Int) x with
      | false => rw [if_pos (by simp), if_neg (by simp)]; rfl
      | true =>
        rw [if_neg (by simp), ckI_eq (idx_ok hp), Bool.true_and]
        have := ih (pre ++ [x]) m (next_at hk) (by omega) (.inr (hnext hp0 (.inr hr)))
        rw [len_snoc, List.length_append] at this
        exact this
    case pos =>
      have hr0 := hnext hp0 (.inl hi)
      have hai := (rightJ_RJ hr0).ai
      rw [if_pos hi, if_pos hi, ckI_eq (by omega), h0m, f32_ok r j0 (by omega), Option.bind_some]
      cases he : (entryJ r j0).2 with
      | false => rw [if_pos (by simp), if_neg (by simp)]; rfl
      | true =>
        rw [if_neg (by simp), hstep, Option.bind_some]
        cases hr : rightJ ((c.length : Int) + 1) x with
        | false => rw [if_pos (by simp), if_neg (by simp)]; rfl
        | true =>
          rw [if_neg (by simp), ckI_eq (idx_ok hp), Bool.true_and, Bool.true_and]
          have := ih (pre ++ [x]) m (next_at hk) (by omega) (.inr hr0)
          rw [len_snoc, List.length_append] at this
          exact this
def ofOk (c : List Ent) (r : Int) (js : List Jd) : Bool := pureC c && (decide (rkids r = (js.length : Int)) && premOk c r (js.headD zeroJ) 0 js)
theorem f9_ok (n : Nat) (c : List Ent) (r k : Int) (js : List Jd) (hn : csize c < n) (hb : csize c ≤ BIG) (hl : js.length ≤ BIG) (hln : js.length < n) (hj : ∀ j ∈ js, jsz j < n ∧ jsz j ≤ BIG) :
    f9 n c r k js = if ofOk c r js = true then finO n c r k js else some (zeroJ, false) := by
  have hcl := csize_len c
  have h0 : js = [] ∨ js[0]? = some (js.headD zeroJ) := by
    cases js with
    | nil => exact .inl rfl
    | cons x r => exact .inr rfl
  unfold f9 o9_0 c9_1 o9_1 ofOk
  simp only [ifB_eq, decide_eq_true_eq]
  rw [f29_ok n c hn hb, Option.bind_some]
  cases pureC c with
  | false => rw [if_pos (by simp), if_neg (by simp)]; rfl
  | true =>
  rw [if_neg (by simp), f30_eq, Option.bind_some, Bool.true_and]
  by_cases h1 : rkids r < 0
  · have : ¬ rkids r = (js.length : Int) := by omega
    rw [if_pos h1, if_neg (by simp [this])]; rfl
  rw [if_neg h1, Option.bind_some]
  by_cases h2 : rkids r = (js.length : Int)
  · rw [if_neg (by simp [h2]), decide_eq_true h2, Bool.true_and]
    have := l62_ok n c r k js (js.headD zeroJ) hl (by omega) h0 hj js [] n rfl hln (.inl rfl)
    rw [len_nil] at this
    exact this
  · rw [if_pos (by simp [h2]), decide_eq_false h2, if_neg (by simp)]; rfl
end Go.Proofs.YtcaahmielncmpaaGreat
