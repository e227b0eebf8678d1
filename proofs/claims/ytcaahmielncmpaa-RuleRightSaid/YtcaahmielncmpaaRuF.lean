/-
  Plain facts on what the functions compute.
-/
import Derived.Test.YtcaahmielncmpaaRuE
set_option linter.unusedSimpArgs false
set_option linter.unusedVariables false
namespace Go.Proofs.Ytcaahmielncmpaa
open Go

theorem at0 {α β : Type} (x : α) (l : List α) (k : α → Option β) : atI (x :: l) 0 k = k x := atI_eq (x := x) (by omega) rfl
theorem at1 {α β : Type} (x y : α) (l : List α) (k : α → Option β) : atI (x :: y :: l) 1 k = k y := atI_eq (x := y) (by omega) rfl
theorem at2 {α β : Type} (x y z : α) (l : List α) (k : α → Option β) : atI (x :: y :: z :: l) 2 k = k z := atI_eq (x := z) (by omega) rfl
theorem at3 {α β : Type} (x y z w : α) (l : List α) (k : α → Option β) : atI (x :: y :: z :: w :: l) 3 k = k w := atI_eq (x := w) (by omega) rfl
theorem f127_eq (k i j n : Int) (x : Tm) (ks : List Tm) (h : ks.length ≤ 10) : f127 k i j n (x :: ks) = some (Tm.mk k i j n (x :: ks)) := by
  unfold f127 o127_0
  simp only [ifB_eq, decide_eq_true_eq]
  rw [if_pos (by simp only [List.length_cons]; omega), ckB_eq (by simp only [Bool.and_eq_true, decide_eq_true_eq, List.length_cons]; omega)]
theorem f127_2 (k i j n : Int) (x y : Tm) : f127 k i j n [x, y] = some (Tm.mk k i j n [x, y]) := f127_eq k i j n x [y] (by simp)
theorem f127_3 (k i j n : Int) (x y z : Tm) : f127 k i j n [x, y, z] = some (Tm.mk k i j n [x, y, z]) := f127_eq k i j n x [y, z] (by simp)
theorem f161_eq (f : Fm) (k : Int) (ks : List Tm) (h : ks.length ≤ 2) : f161 f k ks = some (Tm.mk k f.i f.j 0 (f.a :: f.b :: ks)) := by
  unfold f161 o161_0
  simp only [Tm.eta, List.length_cons, List.length_nil]
  rw [ckB_eq (by simp only [Bool.and_eq_true, decide_eq_true_eq]; omega)]
  show (f127 k f.i f.j 0 (f.a :: f.b :: ks)).bind _ = _
  rw [f127_eq _ _ _ _ _ _ (by simp only [List.length_cons]; omega), Option.bind_some]
theorem f161_0 (f : Fm) (k : Int) : f161 f k [] = some (Tm.mk k f.i f.j 0 [f.a, f.b]) := f161_eq f k [] (by simp)
theorem f161_1 (f : Fm) (k : Int) (x : Tm) : f161 f k [x] = some (Tm.mk k f.i f.j 0 [f.a, f.b, x]) := f161_eq f k [x] (by simp)
theorem f161_2 (f : Fm) (k : Int) (x y : Tm) : f161 f k [x, y] = some (Tm.mk k f.i f.j 0 [f.a, f.b, x, y]) := f161_eq f k [x, y] (by simp)
theorem f162_eq (f : Fm) : f162 f = some (max f.i f.j) := rfl
theorem f142_eq (i : Int) : f142 i = some (Tm.mk 1 i 0 0 []) := rfl
theorem f143_eq (i : Int) : f143 i = some (Tm.mk 2 i 0 0 []) := rfl
theorem tz_eq : Tm.mk 0 0 0 0 [] = tzero := rfl
theorem zj_eq : Jd.mk false tzero tzero tzero 0 = zeroJ := rfl

def ConcOk (K : Int) (e : Bool) (o : Option (Jd × Bool)) : Prop := ∃ J b, o = some (J, b) ∧ jsz J ≤ 1000000 ∧ (b = true → J.i ≤ 1000 → rightJ K J = true ∧ J.eq = e)
theorem good_no (K : Int) (e : Bool) : ConcOk K e (some (zeroJ, false)) := ⟨zeroJ, false, rfl, by decide, fun h => by cases h⟩
theorem lev_of {i : Int} (h0 : 0 ≤ i) (h1 : i ≤ 1000) : lev i = true := by unfold lev; rw [decide_eq_true h0, decide_eq_true h1]; rfl
theorem lev_range {i : Int} (h : lev i = true) : 0 ≤ i ∧ i ≤ 1000 := by
  unfold lev at h
  simp only [Bool.and_eq_true, decide_eq_true_eq] at h
  exact h
theorem lev_max {i j : Int} (hi : lev i = true) (hj : lev j = true) : lev (max i j) = true := by
  have := lev_range hi
  have := lev_range hj
  exact lev_of (by omega) (by omega)
theorem good_ty {K : Int} {u a : Tm} {i : Int} {b : Bool} (hs : u.size + a.size ≤ 900000) (h : b = true → 0 ≤ i ∧ pf K u = true ∧ pf K a = true) : ConcOk K false (some (Jd.mk false u tzero a i, b)) :=
  ⟨_, b, rfl, by have := tzero_size; unfold jsz; show u.size + tzero.size + a.size ≤ _; omega, fun hb hi => by
    obtain ⟨h0, h1, h2⟩ := h hb
    refine ⟨?_, rfl⟩
    unfold rightJ
    show (lev i && (pf K u && (pf K a && isZ tzero))) = true
    rw [lev_of h0 hi, h1, h2]; rfl⟩
theorem good_al {K : Int} {u v a : Tm} {i : Int} {b : Bool} (hs : u.size + v.size + a.size ≤ 900000) (h : b = true → 0 ≤ i ∧ pf K u = true ∧ pf K v = true ∧ pf K a = true) : ConcOk K true (some (Jd.mk true u v a i, b)) :=
  ⟨_, b, rfl, by unfold jsz; show u.size + v.size + a.size ≤ _; omega, fun hb hi => by
    obtain ⟨h0, h1, h2, h3⟩ := h hb
    refine ⟨?_, rfl⟩
    unfold rightJ
    show (lev i && (pf K u && (pf K a && pf K v))) = true
    rw [lev_of h0 hi, h1, h2, h3]; rfl⟩
/-- A premise that is right in its context. -/
structure Pr (K : Int) (j : Jd) : Prop where
  i : lev j.i = true
  u : pf K j.u = true
  a : pf K j.a = true
  v : j.eq = true → pf K j.v = true
theorem rightJ_Pr {K : Int} {j : Jd} (h : rightJ K j = true) : Pr K j := by
  unfold rightJ at h
  simp only [Bool.and_eq_true] at h
  refine ⟨h.1, h.2.1, h.2.2.1, fun he => ?_⟩
  have := h.2.2.2
  rw [if_pos he] at this
  exact this
theorem pf_pure {K : Int} {t : Tm} (h : pf K t = true) : t.pure = true := by
  unfold pf at h
  simp only [Bool.and_eq_true] at h
  exact h.1
theorem Pr.ai {K : Int} {j : Jd} (h : Pr K j) : -9223372036854775808 ≤ j.a.i + 1 ∧ j.a.i + 1 ≤ 9223372036854775807 := by
  have := node_i (marked_node (pure_marked (pf_pure h.a)))
  omega
theorem Pr.ai' {K : Int} {j : Jd} (h : Pr K j) : 0 ≤ j.a.i ∧ j.a.i ≤ 2147483647 := node_i (marked_node (pure_marked (pf_pure h.a)))
theorem Pr.sort {K : Int} {j : Jd} (h : Pr K j) {b : Bool} (ht : typedB j b = true) : j.eq = b ∧ lev j.a.i = true := by
  unfold typedB at ht
  simp only [Bool.and_eq_true, decide_eq_true_eq, beq_iff_eq] at ht
  obtain ⟨_, h1, h2⟩ := node_sort (marked_node (pure_marked (pf_pure h.a))) ht.2.1
  exact ⟨ht.1, lev_of h1 h2⟩
/-- A type that is a family of kind k. -/
theorem f163_ok {K : Int} {j : Jd} (h : Pr K j) (k : Int) (hk : k = 3 ∨ k = 6) :
    ∃ f b, f163 j k = some (f, b) ∧ f.a.size + f.b.size ≤ j.a.size + 2 ∧ (b = true → j.eq = false ∧ FmOk K f ∧ j.i = max f.i f.j) := by
  have hp := Tm.size_pos j.a
  have hz := tzero_size
  unfold f163 o163_0
  simp only [ifB_eq, decide_eq_true_eq, tz_eq]
  cases he : j.eq with
  | true => exact ⟨_, false, by rw [if_pos rfl], by show tzero.size + tzero.size ≤ _; omega, fun h => by cases h⟩
  | false =>
  rw [if_neg (by simp)]
  by_cases hkk : j.a.kind = k
  case neg => exact ⟨_, false, by rw [if_pos (by simpa using hkk)], by show tzero.size + tzero.size ≤ _; omega, fun h => by cases h⟩
  rw [if_neg (by simpa using hkk)]
  have hn := marked_node (pure_marked (pf_pure h.a))
  have hl := kids_len hn
  obtain ⟨l1, l2, l3⟩ := tnums_lev hn (by omega)
  have hl2 : j.a.kids.length = 2 := by
    have : tkids j.a.kind j.a.n = 2 := by rw [hkk]; rcases hk with rfl | rfl <;> rfl
    omega
  match hks : j.a.kids, hl2 with
  | [x, y], _ =>
    have hx := pf_kid h.a (by omega) (idx := 0) (x := x) (by rw [hks]; rfl)
    have hy := pf_kid h.a (by omega) (idx := 1) (x := y) (by rw [hks]; rfl)
    have hs : Tm.sizes j.a.kids + 1 ≤ j.a.size := by cases j.a; simp only [Tm.size, Tm.kids]; omega
    rw [hks] at hs
    simp only [Tm.sizes] at hs
    refine ⟨⟨j.a.i, j.a.j, x, y⟩, decide (j.i = max j.a.i j.a.j), ?_, by show x.size + y.size ≤ _; omega, fun hb => ⟨rfl, ⟨l1, l2, ?_, ?_⟩, by simpa using hb⟩⟩
    · unfold c163_1 o163_1
      rw [hks, at0, at1]
      simp only [Tm.eta, f162_eq, Option.bind_some]
    · rw [hkk] at hx
      rcases hk with rfl | rfl <;> simpa [tbinds] using hx
    · rw [hkk] at hy
      rcases hk with rfl | rfl <;> simpa [tbinds] using hy
theorem fm_typed {K : Int} {p q : Jd} {b b' : Bool} (hp : Pr K p) (hq : Pr (K + 1) q) (tp : typedB p b = true) (tq : typedB q b' = true) : FmOk K ⟨p.a.i, q.a.i, p.u, q.u⟩ :=
  ⟨(hp.sort tp).2, (hq.sort tq).2, hp.u, hq.u⟩
end Go.Proofs.Ytcaahmielncmpaa
