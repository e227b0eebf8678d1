/-
  Plain facts on what the functions compute.
-/
import Derived.Test.YtcaahmielncmpaaGreatRuC
set_option linter.unusedSimpArgs false
set_option linter.unusedVariables false
namespace Go.Proofs.YtcaahmielncmpaaGreat
open Go

theorem bind_pair {α β : Type} (o : Option (α × β)) : (o.bind fun x => some (x.1, x.2)) = o := by cases o <;> rfl
theorem f66_eq (r : Int) : f66 r = some (decide (13 ≤ r) && decide (r ≤ 28)) := by
  unfold f66 o66_0
  simp only [ifB_eq]
  grind
theorem f34_al (n : Nat) (c : List Ent) (r k : Int) (js : List Jd) (h1 : 13 ≤ r) (h2 : r ≤ 28) : f34 n c r k js = f67 n r js := by
  unfold f34 o34_0
  simp only [ifB_eq, decide_eq_true_eq]
  rw [if_neg (by omega), if_neg (by omega), f66_eq, Option.bind_some, decide_eq_true h1, decide_eq_true h2, Bool.and_self, if_pos rfl, bind_pair]
theorem f34_ty (n : Nat) (c : List Ent) (r k : Int) (js : List Jd) (h1 : 3 ≤ r) (h2 : r ≤ 12) : f34 n c r k js = f68 n r js := by
  unfold f34 o34_0
  simp only [ifB_eq, decide_eq_true_eq]
  rw [if_neg (by omega), if_neg (by omega), f66_eq, Option.bind_some, decide_eq_false (p := 13 ≤ r) (by omega), Bool.false_and, if_neg (by simp), bind_pair]
theorem f94_eq (u v a : Tm) (i : Int) : f94 u v a i = some (Jd.mk true u v a i) := by
  unfold f94 o94_0
  rw [jd_eta]
def hasB (j : Jd) (e : Bool) (a : Tm) (i : Int) : Bool := (j.eq == e) && (decide (j.i = i) && j.a.same a)
theorem f95_ok (n : Nat) (j : Jd) (e : Bool) (a : Tm) (i : Int) (h : j.a.size < n) (hb : j.a.size ≤ BIG) : f95 n j e a i = some (hasB j e a i) := by
  unfold f95 o95_0 hasB
  simp only [ifB_eq]
  cases j.eq == e with
  | false => rfl
  | true =>
    rw [if_pos rfl]
    by_cases h1 : j.i = i
    · rw [if_pos (by simpa using h1), f96_ok n _ _ h hb, decide_eq_true h1]; rfl
    · rw [if_neg (by simpa using h1), decide_eq_false h1]; rfl
def convB (a b : Jd) : Bool := typedB b true && (decide (b.a.i = a.i) && a.a.same b.u)
theorem f97_ok (n : Nat) (a b : Jd) (h : a.a.size < n) (hb : a.a.size ≤ BIG) (hi : 0 ≤ b.a.i ∧ b.a.i ≤ 2147483647) : f97 n a b = some (convB a b) := by
  unfold f97 o97_0 convB
  simp only [ifB_eq]
  rw [f59_ok b true (by omega), Option.bind_some]
  cases typedB b true with
  | false => rfl
  | true =>
    rw [if_pos rfl]
    by_cases h1 : b.a.i = a.i
    · rw [if_pos (by simpa using h1), f96_ok n _ _ h hb, decide_eq_true h1]; rfl
    · rw [if_neg (by simpa using h1), decide_eq_false h1]; rfl
theorem f67_15 (n : Nat) (j q : Jd) (hj : jsz j < n ∧ jsz j ≤ BIG) (hq : jsz q < n ∧ jsz q ≤ BIG) : f67 n 15 [j, q] = some (Jd.mk true j.u q.v j.a j.i, j.eq && (hasB q true j.a j.i && j.v.same q.u)) := by
  unfold jsz at hj hq
  unfold f67 o67_0
  simp only [ifB_eq, decide_eq_true_eq]
  rw [atI_eq (x := j) (by omega) rfl, if_neg (by omega), if_neg (by omega), if_pos True.intro, atI_eq (x := q) (by omega) rfl, f94_eq, Option.bind_some]
  cases j.eq with
  | false => rfl
  | true =>
    rw [if_pos rfl, f95_ok n q true j.a j.i (by omega) (by omega), Option.bind_some]
    cases hasB q true j.a j.i with
    | false => rfl
    | true => rw [if_pos rfl, f96_ok n _ _ (by omega) (by omega)]; rfl
theorem f68_12 (n : Nat) (j q : Jd) (hj : jsz j < n ∧ jsz j ≤ BIG) (hi : 0 ≤ q.a.i ∧ q.a.i ≤ 2147483647) : f68 n 12 [j, q] = some (Jd.mk false j.u tzero q.v j.i, !j.eq && convB j q) := by
  unfold jsz at hj
  unfold f68 o68_0
  simp only [ifB_eq, decide_eq_true_eq]
  rw [atI_eq (x := j) (by omega) rfl, if_neg (by omega)]
  unfold c68_1 o68_1
  simp only [ifB_eq, decide_eq_true_eq]
  rw [if_neg (by omega), if_neg (by omega), if_neg (by omega), if_neg (by omega), if_neg (by omega)]
  unfold c68_4 o68_4
  simp only [ifB_eq, decide_eq_true_eq]
  rw [if_neg (by omega), if_neg (by omega), if_neg (by omega), if_pos True.intro, atI_eq (x := q) (by omega) rfl]
  cases j.eq with
  | true => simp only [Tm.eta]; rfl
  | false =>
    rw [if_pos (by simp), atI_eq (x := q) (by omega) rfl, f97_ok n j q (by omega) (by omega) hi, Option.bind_some]
    simp only [Tm.eta]; rfl
theorem ofOk_of {c : List Ent} {r : Int} {js : List Jd} (h : ofOk c r js = true) : pureC c = true ∧ rkids r = (js.length : Int) ∧ premOk c r (js.headD zeroJ) 0 js = true := by
  unfold ofOk at h
  simp only [Bool.and_eq_true, decide_eq_true_eq] at h
  exact h
/-- What rule.Of does with a rule whose conclusion is known. -/
theorem f9_fin (n : Nat) (c : List Ent) (r k : Int) (js : List Jd) (J : Jd) (b : Bool) (hn : csize c < n) (hb : csize c ≤ BIG) (hl : js.length ≤ BIG) (hln : js.length < n) (hj : ∀ j ∈ js, jsz j < n ∧ jsz j ≤ BIG)
    (h : ofOk c r js = true → f34 n c r k js = some (J, b)) (hJ : jsz J < n ∧ jsz J ≤ BIG) :
    f9 n c r k js = some (if (ofOk c r js && (b && decide (J.i ≤ 1000))) = true then (J, true) else (zeroJ, false)) := by
  rw [f9_ok n c r k js hn hb hl hln hj]
  cases ho : ofOk c r js with
  | false => rfl
  | true =>
    rw [if_pos rfl]
    unfold finO
    rw [h ho, Option.bind_some, c9_4_ok n _ _ _ _ _ _ _ _ _ _ _ _ _ _ J hJ.1 hJ.2, Bool.true_and]
    cases b with
    | false => rw [if_pos (.inl rfl)]; rfl
    | true =>
      by_cases hi : 1000 < J.i
      · rw [if_pos (.inr hi), decide_eq_false (by omega)]; rfl
      · rw [if_neg (by simp; omega), decide_eq_true (by omega)]; rfl
end Go.Proofs.YtcaahmielncmpaaGreat
