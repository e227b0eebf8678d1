/-
  Plain facts on what the functions compute.
-/
import Derived.Test.YtcaahmielncmpaaRuC
set_option linter.unusedSimpArgs false
set_option linter.unusedVariables false
namespace Go.Proofs.Ytcaahmielncmpaa
open Go

theorem bind_pair {α β : Type} (o : Option (α × β)) : (o.bind fun x => some (x.1, x.2)) = o := by cases o <;> rfl
theorem f144_eq (r : Int) : f144 r = some (decide (13 ≤ r) && decide (r ≤ 28)) := by
  unfold f144 o144_0
  simp only [ifB_eq]
  grind
theorem f116_al (n : Nat) (c : List Ent) (r k : Int) (js : List Jd) (h1 : 13 ≤ r) (h2 : r ≤ 28) : f116 n c r k js = f145 n r js := by
  unfold f116 o116_0
  simp only [ifB_eq, decide_eq_true_eq]
  rw [if_neg (by omega), if_neg (by omega), f144_eq, Option.bind_some, decide_eq_true h1, decide_eq_true h2, Bool.and_self, if_pos rfl, bind_pair]
theorem f156_eq (u v a : Tm) (i : Int) : f156 u v a i = some (Jd.mk true u v a i) := by
  unfold f156 o156_0
  rw [jd_eta]
def hasB (j : Jd) (e : Bool) (a : Tm) (i : Int) : Bool := (j.eq == e) && (decide (j.i = i) && j.a.same a)
theorem f157_ok (n : Nat) (j : Jd) (e : Bool) (a : Tm) (i : Int) (h : j.a.size < n) (hb : j.a.size ≤ BIG) : f157 n j e a i = some (hasB j e a i) := by
  unfold f157 o157_0 hasB
  simp only [ifB_eq]
  cases j.eq == e with
  | false => rfl
  | true =>
    rw [if_pos rfl]
    by_cases h1 : j.i = i
    · rw [if_pos (by simpa using h1), f104_ok n _ _ h hb, decide_eq_true h1]; rfl
    · rw [if_neg (by simpa using h1), decide_eq_false h1]; rfl
theorem f145_14 (n : Nat) (j : Jd) : f145 n 14 [j] = some (Jd.mk true j.v j.u j.a j.i, j.eq) := by
  unfold f145 o145_0
  simp only [ifB_eq, decide_eq_true_eq]
  rw [atI_eq (x := j) (by omega) rfl, if_neg (by omega), if_pos True.intro, f156_eq, Option.bind_some]
theorem f145_15 (n : Nat) (j q : Jd) (hj : jsz j < n ∧ jsz j ≤ BIG) (hq : jsz q < n ∧ jsz q ≤ BIG) : f145 n 15 [j, q] = some (Jd.mk true j.u q.v j.a j.i, j.eq && (hasB q true j.a j.i && j.v.same q.u)) := by
  unfold jsz at hj hq
  unfold f145 o145_0
  simp only [ifB_eq, decide_eq_true_eq]
  rw [atI_eq (x := j) (by omega) rfl, if_neg (by omega), if_neg (by omega), if_pos True.intro, atI_eq (x := q) (by omega) rfl, f156_eq, Option.bind_some]
  cases j.eq with
  | false => rfl
  | true =>
    rw [if_pos rfl, f157_ok n q true j.a j.i (by omega) (by omega), Option.bind_some]
    cases hasB q true j.a j.i with
    | false => rfl
    | true => rw [if_pos rfl, f104_ok n _ _ (by omega) (by omega)]; rfl
theorem ofOk_of {c : List Ent} {r : Int} {js : List Jd} (h : ofOk c r js = true) : pureC c = true ∧ rkids r = (js.length : Int) ∧ premOk c r (js.headD zeroJ) 0 js = true := by
  unfold ofOk at h
  simp only [Bool.and_eq_true, decide_eq_true_eq] at h
  exact h
theorem inner_none {r : Int} (h : r = 14 ∨ r = 15 ∨ r = 12) (i : Int) : rinner r i = false := by
  unfold rinner
  rcases h with rfl | rfl | rfl <;> rfl
theorem premOk_none {c : List Ent} {r : Int} {j0 : Jd} (h : ∀ i : Nat, rinner r (i : Nat) = false) : ∀ (js : List Jd) (i : Nat), premOk c r j0 i js = true ↔ ∀ j ∈ js, rightJ (c.length : Int) j = true
  | [], _ => by simp [premOk]
  | x :: js, i => by simp [premOk, h i, premOk_none h js (i + 1)]
/-- What rule.Of does with a rule whose conclusion is known. -/
theorem f62_fin (n : Nat) (c : List Ent) (r k : Int) (js : List Jd) (J : Jd) (b : Bool) (hn : csize c < n) (hb : csize c ≤ BIG) (hl : js.length ≤ BIG) (hln : js.length < n) (hj : ∀ j ∈ js, jsz j < n ∧ jsz j ≤ BIG)
    (h : ofOk c r js = true → f116 n c r k js = some (J, b)) (hJ : jsz J < n ∧ jsz J ≤ BIG) :
    f62 n c r k js = some (if (ofOk c r js && (b && decide (J.i ≤ 1000))) = true then (J, true) else (zeroJ, false)) := by
  rw [f62_ok n c r k js hn hb hl hln hj]
  cases ho : ofOk c r js with
  | false => rfl
  | true =>
    rw [if_pos rfl]
    unfold finO
    rw [h ho, Option.bind_some, c62_4_ok n _ _ _ _ _ _ _ _ _ _ _ _ _ _ J hJ.1 hJ.2, Bool.true_and]
    cases b with
    | false => rw [if_pos (.inl rfl)]; rfl
    | true =>
      by_cases hi : 1000 < J.i
      · rw [if_pos (.inr hi), decide_eq_false (by omega)]; rfl
      · rw [if_neg (by simp; omega), decide_eq_true (by omega)]; rfl
theorem rightJ_eq {k : Int} {j : Jd} (h : rightJ k j = true) (he : j.eq = true) : pf k j.u = true ∧ pf k j.v = true ∧ pf k j.a = true ∧ lev j.i = true := by
  unfold rightJ at h
  rw [he, if_pos rfl] at h
  simp only [Bool.and_eq_true] at h
  exact ⟨h.2.1, h.2.2.2, h.2.2.1, h.1⟩
end Go.Proofs.Ytcaahmielncmpaa
