/-
  The statement returns true.
-/
import Derived.Test.YteaglcbnkephgaaPlT
import Derived.Test.YteaglcbnkephgaaGenDerivPaths
set_option linter.unusedSimpArgs false
set_option linter.unusedVariables false
namespace Go.Proofs.Yteaglcbnkephgaa
open Go
theorem w44_true (m : Nat) : f44 (m + 20) = some true := by kernel_rfl
theorem l4_ok (n : Nat) (d x : Dv) (p : List Int) (hat : Dv.at d p = some x) (hs : d.size ≤ 600) (hp : p.length ≤ 200) (hn : 5000 < n) (hw : f44 n = some true) : ∀ (q j m : Nat), j + q = x.kids.length + 2 → q < m → l4_3 n m p d x ((j : Int) - 1) = some true := by
  have hBig := BIG_eq
  have hx := Dv.at_size hat
  have hl := Dv.len_kids x
  intro q
  induction q with
  | zero =>
    intro j m hc hm
    obtain ⟨m, rfl⟩ := fuel hm
    simp only [l4_3, o4_3, decide_eq_true_eq]
    rw [if_neg (by omega), hw]
    rfl
  | succ q ih =>
    intro j m hc hm
    obtain ⟨m, rfl⟩ := fuel hm
    have hnext := ih (j + 1) m (by omega) (by omega)
    rw [show ((j + 1 : Nat) : Int) - 1 = (j : Int) - 1 + 1 by omega] at hnext
    simp only [l4_3, o4_3, decide_eq_true_eq]
    rw [if_pos (by omega), ckB_eq (by simp; omega), ckB_eq (by simp; omega), f35_ok n d _ (by omega) (by omega) (by simp; omega) (by simp; omega), Option.bind_some, List.nil_append, Dv.at_append, hat, Option.bind_some]
    by_cases h0 : (0 : Int) ≤ (j : Int) - 1
    · rw [if_pos h0]
      by_cases h1 : (j : Int) - 1 < x.kids.length
      · have hlt : ((j : Int) - 1).toNat < x.kids.length := by omega
        have hg := List.getElem?_eq_getElem hlt
        have hy := Dv.size_kid (List.getElem_mem hlt)
        have e : Dv.at x [(j : Int) - 1] = some x.kids[((j : Int) - 1).toNat] := by
          simp only [Dv.at]
          rw [if_neg (by omega), hg]
        rw [e]
        show (if (!(true == decide ((j : Int) - 1 < x.kids.length))) = true then some false else if true = true then atI x.kids ((j : Int) - 1) fun x15 => (f43 n x.kids[((j : Int) - 1).toNat] x15).bind fun x16 => if (!x16) = true then some false else ckI ((j : Int) - 1 + 1) (l4_3 n m p d x ((j : Int) - 1 + 1)) else ckI ((j : Int) - 1 + 1) (l4_3 n m p d x ((j : Int) - 1 + 1))) = some true
        rw [if_neg (by simp; omega), if_pos rfl, atI_eq (by omega) hg, f43_refl n _ (by omega) (by omega), Option.bind_some, if_neg (by simp), ckI_eq (by omega), hnext]
      · have e : Dv.at x [(j : Int) - 1] = none := by
          simp only [Dv.at]
          rw [if_neg (by omega), List.getElem?_eq_none (by omega)]
        rw [e]
        show (if (!(false == decide ((j : Int) - 1 < x.kids.length))) = true then some false else if false = true then _ else ckI ((j : Int) - 1 + 1) (l4_3 n m p d x ((j : Int) - 1 + 1))) = some true
        rw [if_neg (by simp; omega), if_neg (by simp), ckI_eq (by omega), hnext]
    · rw [if_neg h0]
      have e : Dv.at x [(j : Int) - 1] = none := by
        simp only [Dv.at]
        rw [if_pos (by omega)]
      rw [e]
      show (if (!(false == false)) = true then some false else if false = true then _ else ckI ((j : Int) - 1 + 1) (l4_3 n m p d x ((j : Int) - 1 + 1))) = some true
      rw [if_neg (by simp), if_neg (by simp), ckI_eq (by omega), hnext]
theorem derivPaths_c (d : Dv) (p : List Int) : ACalls Try.prog 4 [.agg d.cells, .one (.slice (p.map fun n => [.int n]))] (.v (.one (.bool true))) true :=
  (ok4 (9980 + 20)).2 (d, p, ()) true (by
    show f4 (9980 + 20) d p = some true
    have hBig := BIG_eq
    have hw := w44_true 9980
    simp only [f4, o4_0, f34, o34_0]
    rw [f105_ok _ d 600 200 (by omega) (by omega) (by omega) (by omega) (by omega), Option.bind_some, Option.bind_some]
    by_cases h : (600 : Int) < d.weigh 600 200
    · rw [if_pos (by simpa using h)]
    rw [if_neg (by simpa using h)]
    have hs := Dv.great_size (by omega) h
    simp only [decide_eq_true_eq]
    by_cases h1 : 200 < (p.length : Int)
    · rw [if_pos h1]
    rw [if_neg h1]
    simp only [c4_1, o4_1]
    rw [f35_ok _ d p (by omega) (by omega) (by omega) (by omega), Option.bind_some]
    cases hat : Dv.at d p with
    | none =>
      show ((f44 (9980 + 20)).bind fun x3 => some x3) = some true
      rw [hw]
      rfl
    | some x =>
      have hx := Dv.at_size hat
      have hok := fun h => Dv.at_ok hat h
      have hl := Dv.len_kids x
      have hloop := l4_ok (9980 + 20) d x p hat (by omega) (by omega) (by omega) hw (x.kids.length + 2) 0 (9980 + 20) (by omega) (by omega)
      have key : c4_2 (9980 + 20) (l4_3 (9980 + 20) (9980 + 20)) p d x = some true := by
        simp only [c4_2, o4_2]
        exact hloop
      refine (if_neg (show ¬ ((!(dout (some x)).2) = true) by simp [dout])).trans ?_
      simp only [show (dout (some x)).1 = x from rfl]
      rw [f37_ok _ d (by omega) (by omega), f37_ok _ x (by omega) (by omega), f39_ok _ x (by omega) (by omega), f39_ok _ d (by omega) (by omega), f41_ok _ x (by omega) (by omega), f41_ok _ d (by omega) (by omega)]
      simp only [Option.bind_some, decide_eq_true_eq]
      have hdx := Dv.deep_size x
      rw [ckI_eq (by omega), if_neg (show ¬ (d.size : Int) < x.size by omega), if_neg (show ¬ (d.deep : Int) < x.deep + p.length by omega), key]
      cases hd : d.ok with
      | false => rfl
      | true => rw [hok hd]; rfl)
end Go.Proofs.Yteaglcbnkephgaa
