/-
  Plain facts on what the functions compute.
-/
import Derived.Test.YtcaahmielncmpaaChA
import Derived.Test.YtcaahmielncmpaaFlA
set_option linter.unusedSimpArgs false
set_option linter.unusedVariables false
namespace Go.Proofs.Ytcaahmielncmpaa
open Go
set_option maxRecDepth 20000

theorem l119_ok (n : Nat) (x : Int) (b : List Int) (hb : b.length ≤ 100000) : ∀ (k m : Nat) (acc : List Int), k ≤ b.length → k < m → acc.length + k ≤ 100000 → l119_1 n m x b acc ((k : Int) - 1) = some (acc ++ (b.take k).reverse)
  | 0, m, acc, _, hm, _ => by
    obtain ⟨m, rfl⟩ := fuel hm
    simp only [l119_1, o119_1, decide_eq_true_eq, ifB_eq]
    rw [if_neg (by omega)]
    simp
  | k + 1, m, acc, hk, hm, ha => by
    obtain ⟨m, rfl⟩ := fuel hm
    have hg := List.getElem?_eq_getElem (show k < b.length by omega)
    simp only [l119_1, o119_1, decide_eq_true_eq, ifB_eq]
    have e : ((k + 1 : Nat) : Int) - 1 = (k : Int) := by omega
    rw [e, if_pos (by omega), atI_eq (x := b[k]) (by omega) (by simp), ckB_eq (by simpa using room8 (show acc.length ≤ 100000 by omega)), ckI_eq (by omega), l119_ok n x b hb k m (acc ++ [b[k]]) (by omega) (by omega) (by simp; omega)]
    rw [List.take_add_one, hg]
    simp only [Option.toList_some, List.reverse_append, List.reverse_cons, List.reverse_nil, List.nil_append, List.append_assoc, List.cons_append]
theorem f119_ok (n : Nat) (x : Int) (b : List Int) (hb : b.length ≤ 100000) (hn : b.length < n) : f119 n (x, b, ()) = some b.reverse := by
  simp only [f119, o119_0]
  rw [ckI_eq (by omega)]
  have := l119_ok n x b hb b.length n [] (Nat.le_refl _) hn (by simpa using hb)
  rw [this]
  simp
/-- check.Judge -/
def jdg (m : Nat) (c : List Ent) (d : Dv) : Jd × Int × List Int :=
  if (pureC c && d.ok) = true then (match jg m c d with
    | .ok J => (J, 0, [])
    | .error f => (zeroJ, f.1, f.2.reverse)) else (zeroJ, 1, [])
theorem prem13 (c : List Ent) : premC c 13 0 [] = if pureC c = true then (c, true) else ([], false) := by
  unfold premC
  cases pureC c with
  | false => rw [if_pos (.inl rfl)]; rfl
  | true =>
    have h1 : ¬ (true = false ∨ (0 : Int) < 0 ∨ rkids 13 ≤ 0) := by decide
    rw [if_neg h1, if_pos (by decide)]; rfl
theorem f68_ok {m : Nat} (hm : Held m) {w n : Nat} {d : Dv} {c : List Ent} (hd : d.size ≤ w) (hw : w ≤ 801) (hn : 20001000 < n) (hb : Bd c w) : f68 n c d m = some (jdg m c d) := by
  have hcl : csize c ≤ 1000000 := by have := hb.2.1; omega
  have hB := BIG_eq
  unfold f68
  simp only [o68_0, tz_eq, zj_eq, ifB_eq]
  rw [f59_ok n c 13 0 [] (by omega) (by omega) (fun j hj => by cases hj), prem13, Option.bind_some]
  unfold jdg
  cases pureC c with
  | false => rw [if_pos (by rfl)]; rfl
  | true =>
    rw [if_neg (by simp), f117_ok n d (by omega) (by omega), Option.bind_some]
    cases d.ok with
    | false => rw [if_pos (by rfl)]; rfl
    | true =>
      rw [if_neg (by simp), if_pos (by rfl)]
      unfold c68_1
      simp only [o68_1, tz_eq, zj_eq, ifB_eq]
      rw [f118_ok hm w n d c hd hw (by omega) hb, Option.bind_some]
      cases hg : jg m c d with
      | ok J => simp only [jout, Option.isSome_none, Bool.false_eq_true, if_false]
      | error f =>
        obtain ⟨x, b⟩ := f
        have := jg_err _ d c x b (Nat.le_refl _) hg
        simp only [jout, Option.isSome_some, if_true, thO]
        rw [f119_ok n x b (by omega) (by omega), Option.bind_some]
def hd (m : Nat) : Nat := if fGt m 4652007308841189376 = true then 4652007308841189376 else m
theorem held_1000 : Held 4652007308841189376 := by
  intro a ha h
  rw [← k1000] at h
  exact (fOf_le (a := a) (b := 1000) (by omega) (by omega)).1 h
end Go.Proofs.Ytcaahmielncmpaa
