/-
  Plain facts on what the functions compute.
-/
import Derived.Test.YtcaahmielncmpaaGreatRuE
set_option linter.unusedSimpArgs false
set_option linter.unusedVariables false
namespace Go.Proofs.YtcaahmielncmpaaGreat
open Go

theorem at0 {α β : Type} (x : α) (l : List α) (k : α → Option β) : atI (x :: l) 0 k = k x := atI_eq (x := x) (by omega) rfl
theorem at1 {α β : Type} (x y : α) (l : List α) (k : α → Option β) : atI (x :: y :: l) 1 k = k y := atI_eq (x := y) (by omega) rfl
theorem at2 {α β : Type} (x y z : α) (l : List α) (k : α → Option β) : atI (x :: y :: z :: l) 2 k = k z := atI_eq (x := z) (by omega) rfl
theorem at3 {α β : Type} (x y z w : α) (l : List α) (k : α → Option β) : atI (x :: y :: z :: w :: l) 3 k = k w := atI_eq (x := w) (by omega) rfl
theorem f105_eq (k i j n : Int) (x : Tm) (ks : List Tm) (h : ks.length ≤ 10) : f105 k i j n (x :: ks) = some (Tm.mk k i j n (x :: ks)) := by
  unfold f105 o105_0
  simp only [ifB_eq, decide_eq_true_eq]
  rw [if_pos (by simp only [List.length_cons]; omega), ckB_eq (by simp only [Bool.and_eq_true, decide_eq_true_eq, List.length_cons]; omega)]
theorem f105_2 (k i j n : Int) (x y : Tm) : f105 k i j n [x, y] = some (Tm.mk k i j n [x, y]) := f105_eq k i j n x [y] (by simp)
theorem f105_3 (k i j n : Int) (x y z : Tm) : f105 k i j n [x, y, z] = some (Tm.mk k i j n [x, y, z]) := f105_eq k i j n x [y, z] (by simp)
theorem f101_eq (f : Fm) (k : Int) (ks : List Tm) (h : ks.length ≤ 2) : f101 f k ks = some (Tm.mk k f.i f.j 0 (f.a :: f.b :: ks)) := by
  unfold f101 o101_0
  simp only [Tm.eta, List.length_cons, List.length_nil]
  rw [ckB_eq (by simp only [Bool.and_eq_true, decide_eq_true_eq]; omega)]
  show (f105 k f.i f.j 0 (f.a :: f.b :: ks)).bind _ = _
  rw [f105_eq _ _ _ _ _ _ (by simp only [List.length_cons]; omega), Option.bind_some]
theorem f101_0 (f : Fm) (k : Int) : f101 f k [] = some (Tm.mk k f.i f.j 0 [f.a, f.b]) := f101_eq f k [] (by simp)
theorem f101_1 (f : Fm) (k : Int) (x : Tm) : f101 f k [x] = some (Tm.mk k f.i f.j 0 [f.a, f.b, x]) := f101_eq f k [x] (by simp)
theorem f101_2 (f : Fm) (k : Int) (x y : Tm) : f101 f k [x, y] = some (Tm.mk k f.i f.j 0 [f.a, f.b, x, y]) := f101_eq f k [x, y] (by simp)
theorem f102_eq (f : Fm) : f102 f = some (max f.i f.j) := rfl
theorem f63_eq (i : Int) : f63 i = some (Tm.mk 1 i 0 0 []) := rfl
theorem f65_eq (i : Int) : f65 i = some (Tm.mk 2 i 0 0 []) := rfl
theorem tz_eq : Tm.mk 0 0 0 0 [] = tzero := rfl
theorem zj_eq : Jd.mk false tzero tzero tzero 0 = zeroJ := rfl

/-! ## What each rule concludes -/
def famS (j : Jd) (k : Int) : Option Fm :=
  if (!j.eq && (decide (j.a.kind = k) && decide (j.i = max j.a.i j.a.j))) = true then (match j.a.kids with
    | [x, y] => some ⟨j.a.i, j.a.j, x, y⟩
    | _ => none) else none
def pairS (p q s : Jd) : Option (Fm × Tm) :=
  if (typedB q false && (!p.eq && hasB s false (q.u.putZ p.u) q.a.i)) = true then some (⟨p.i, q.a.i, p.a, q.u⟩, Tm.mk 7 p.i q.a.i 0 [p.a, q.u, p.u, s.u]) else none
def s1 (k : Int) : Option Jd := if 0 ≤ k ∧ k ≤ 900 then some (Jd.mk false (Tm.mk 1 k 0 0 []) tzero (Tm.mk 1 (k + 1) 0 0 []) (k + 2)) else none
def s2 (c : List Ent) (k : Int) : Option Jd := if (atC c k).2.2 = true then some (Jd.mk false (Tm.mk 2 k 0 0 []) tzero (atC c k).1 (atC c k).2.1) else none
def s3 (r : Int) (p q : Jd) : Option Jd := if (typedB p false && typedB q false) = true then some (Jd.mk false (Tm.mk r p.a.i q.a.i 0 [p.u, q.u]) tzero (Tm.mk 1 (max p.a.i q.a.i) 0 0 []) (max p.a.i q.a.i + 1)) else none
def s4 (p q : Jd) : Option Jd := if (typedB p false && !q.eq) = true then some (Jd.mk false (Tm.mk 4 p.a.i q.i 0 [p.u, q.a, q.u]) tzero (Tm.mk 3 p.a.i q.i 0 [p.u, q.a]) (max p.a.i q.i)) else none
def s5 (p q : Jd) : Option Jd := match famS p 3 with
  | some f => if hasB q false f.a f.i = true then some (Jd.mk false (Tm.mk 5 f.i f.j 0 [f.a, f.b, p.u, q.u]) tzero (f.b.putZ q.u) f.j) else none
  | none => none
def s7 (p q s : Jd) : Option Jd := match pairS p q s with
  | some (f, t) => some (Jd.mk false t tzero (Tm.mk 6 f.i f.j 0 [f.a, f.b]) (max f.i f.j))
  | none => none
def s8 (p : Jd) : Option Jd := match famS p 6 with
  | some f => some (Jd.mk false (Tm.mk 8 f.i f.j 0 [f.a, f.b, p.u]) tzero f.a f.i)
  | none => none
def s9 (p : Jd) : Option Jd := match famS p 6 with
  | some f => some (Jd.mk false (Tm.mk 9 f.i f.j 0 [f.a, f.b, p.u]) tzero (f.b.putZ (Tm.mk 8 f.i f.j 0 [f.a, f.b, p.u])) f.j)
  | none => none
def s10 (p q : Jd) : Option Jd := if (!p.eq && hasB q false p.a p.i) = true then some (Jd.mk false (Tm.mk 10 p.i 0 0 [p.a, p.u, q.u]) tzero (Tm.mk 1 p.i 0 0 []) (p.i + 1)) else none
def s11 (p : Jd) : Option Jd := if (!p.eq) = true then some (Jd.mk false (Tm.mk 11 p.i 0 0 [p.a, p.u]) tzero (Tm.mk 10 p.i 0 0 [p.a, p.u, p.u]) p.i) else none
def s12 (p q : Jd) : Option Jd := if (!p.eq && convB p q) = true then some (Jd.mk false p.u tzero q.v p.i) else none
def s13 (p : Jd) : Option Jd := if (!p.eq) = true then some (Jd.mk true p.u p.u p.a p.i) else none
def s14 (p : Jd) : Option Jd := if p.eq = true then some (Jd.mk true p.v p.u p.a p.i) else none
def s15 (p q : Jd) : Option Jd := if (p.eq && (hasB q true p.a p.i && p.v.same q.u)) = true then some (Jd.mk true p.u q.v p.a p.i) else none
def s16 (p q : Jd) : Option Jd := if (p.eq && convB p q) = true then some (Jd.mk true p.u p.v q.v p.i) else none
def s17 (p : Jd) : Option Jd := if (!p.eq && (decide (p.a.kind = 10) && decide (p.a.i = p.i))) = true then (match p.a.kids with
    | [x, y, z] => some (Jd.mk true y z x p.i)
    | _ => none) else none
def s18 (p q : Jd) : Option Jd := if (!p.eq && !q.eq) = true then some (Jd.mk true (Tm.mk 5 p.i q.i 0 [p.a, q.a, Tm.mk 4 p.i q.i 0 [p.a, q.a, q.u], p.u]) (q.u.putZ p.u) (q.a.putZ p.u) q.i) else none
def s19 (p q s : Jd) : Option Jd := match pairS p q s with
  | some (f, t) => some (Jd.mk true (Tm.mk 8 f.i f.j 0 [f.a, f.b, t]) p.u f.a f.i)
  | none => none
def s20 (p q s : Jd) : Option Jd := match pairS p q s with
  | some (f, t) => some (Jd.mk true (Tm.mk 9 f.i f.j 0 [f.a, f.b, t]) s.u (f.b.putZ p.u) f.j)
  | none => none
def s21 (p : Jd) : Option Jd := match famS p 3 with
  | some f => some (Jd.mk true p.u (Tm.mk 4 f.i f.j 0 [f.a, f.b, Tm.mk 5 f.i f.j 0 [Tm.up 1 0 f.a, Tm.up 1 1 f.b, Tm.up 1 0 p.u, Tm.mk 2 0 0 0 []]]) (Tm.mk 3 f.i f.j 0 [f.a, f.b]) (max f.i f.j))
  | none => none
def s22 (p : Jd) : Option Jd := match famS p 6 with
  | some f => some (Jd.mk true p.u (Tm.mk 7 f.i f.j 0 [f.a, f.b, Tm.mk 8 f.i f.j 0 [f.a, f.b, p.u], Tm.mk 9 f.i f.j 0 [f.a, f.b, p.u]]) (Tm.mk 6 f.i f.j 0 [f.a, f.b]) (max f.i f.j))
  | none => none
def s23 (p q : Jd) : Option Jd := if (p.eq && !q.eq) = true then some (Jd.mk true (q.u.putZ p.u) (q.u.putZ p.v) (q.a.putZ p.u) q.i) else none
def s24 (p q : Jd) : Option Jd := if (!p.eq && (decide (p.a.kind = 10) && (decide (p.a.i = p.i) && hasB q false p.a p.i))) = true then some (Jd.mk true p.u q.u p.a p.i) else none
def s25 (r : Int) (p q : Jd) : Option Jd := if (typedB p true && typedB q true) = true then some (Jd.mk true (Tm.mk r p.a.i q.a.i 0 [p.u, q.u]) (Tm.mk r p.a.i q.a.i 0 [p.v, q.v]) (Tm.mk 1 (max p.a.i q.a.i) 0 0 []) (max p.a.i q.a.i + 1)) else none
def s27 (p q s : Jd) : Option Jd := if (typedB p true && (typedB q true && hasB s true q.u q.a.i)) = true then some (Jd.mk true (Tm.mk 4 p.a.i q.a.i 0 [p.u, q.u, s.u]) (Tm.mk 4 p.a.i q.a.i 0 [p.v, q.v, s.v]) (Tm.mk 3 p.a.i q.a.i 0 [p.u, q.u]) (max p.a.i q.a.i)) else none
def s28 (p q s t : Jd) : Option Jd := if (typedB p true && (typedB q true && (hasB s false p.u p.a.i && hasB t false (q.u.putZ s.u) q.a.i))) = true then
  some (Jd.mk true (Tm.mk 7 p.a.i q.a.i 0 [p.u, q.u, s.u, t.u]) (Tm.mk 7 p.a.i q.a.i 0 [p.v, q.v, s.u, t.u]) (Tm.mk 6 p.a.i q.a.i 0 [p.u, q.u]) (max p.a.i q.a.i)) else none
def concl (c : List Ent) (r k : Int) (js : List Jd) : Option Jd := match js with
  | [] => if r = 1 then s1 k else if r = 2 then s2 c k else none
  | [p] => if r = 8 then s8 p else if r = 9 then s9 p else if r = 11 then s11 p else if r = 13 then s13 p else if r = 14 then s14 p else if r = 17 then s17 p else if r = 21 then s21 p else if r = 22 then s22 p else none
  | [p, q] => if r = 3 then s3 3 p q else if r = 6 then s3 6 p q else if r = 4 then s4 p q else if r = 5 then s5 p q else if r = 10 then s10 p q else if r = 12 then s12 p q else if r = 15 then s15 p q else if r = 16 then s16 p q else if r = 18 then s18 p q else if r = 23 then s23 p q else if r = 24 then s24 p q else if r = 25 then s25 3 p q else if r = 26 then s25 6 p q else none
  | [p, q, s] => if r = 7 then s7 p q s else if r = 19 then s19 p q s else if r = 20 then s20 p q s else if r = 27 then s27 p q s else none
  | [p, q, s, t] => if r = 28 then s28 p q s t else none
  | _ => none
def ConcOk (K : Int) (e : Bool) (S : Option Jd) (o : Option (Jd × Bool)) : Prop := ∃ J b, o = some (J, b) ∧ S = (if b = true then some J else none) ∧ jsz J ≤ 10000000 ∧ (b = true → J.i ≤ 1000 → rightJ K J = true ∧ J.eq = e)
theorem good_no (K : Int) (e : Bool) {S : Option Jd} (hS : S = none) : ConcOk K e S (some (zeroJ, false)) := ⟨zeroJ, false, rfl, by rw [hS]; rfl, by decide, fun h => by cases h⟩
theorem lev_of {i : Int} (h0 : 0 ≤ i) (h1 : i ≤ 1000) : lev i = true := by unfold lev; rw [decide_eq_true h0, decide_eq_true h1]; rfl
theorem lev_range {i : Int} (h : lev i = true) : 0 ≤ i ∧ i ≤ 1000 := by
  unfold lev at h
  simp only [Bool.and_eq_true, decide_eq_true_eq] at h
  exact h
theorem lev_max {i j : Int} (hi : lev i = true) (hj : lev j = true) : lev (max i j) = true := by
  have := lev_range hi
  have := lev_range hj
  exact lev_of (by omega) (by omega)
theorem good_ty {K : Int} {u a : Tm} {i : Int} {b : Bool} (hs : u.size + a.size ≤ 9000000) (h : b = true → 0 ≤ i ∧ pf K u = true ∧ pf K a = true) {S : Option Jd} (hS : S = if b = true then some (Jd.mk false u tzero a i) else none) : ConcOk K false S (some (Jd.mk false u tzero a i, b)) :=
  ⟨_, b, rfl, hS, by have := tzero_size; unfold jsz; show u.size + tzero.size + a.size ≤ _; omega, fun hb hi => by
    obtain ⟨h0, h1, h2⟩ := h hb
    refine ⟨?_, rfl⟩
    unfold rightJ
    show (lev i && (pf K u && (pf K a && isZ tzero))) = true
    rw [lev_of h0 hi, h1, h2]; rfl⟩
theorem good_al {K : Int} {u v a : Tm} {i : Int} {b : Bool} (hs : u.size + v.size + a.size ≤ 9000000) (h : b = true → 0 ≤ i ∧ pf K u = true ∧ pf K v = true ∧ pf K a = true) {S : Option Jd} (hS : S = if b = true then some (Jd.mk true u v a i) else none) : ConcOk K true S (some (Jd.mk true u v a i, b)) :=
  ⟨_, b, rfl, hS, by unfold jsz; show u.size + v.size + a.size ≤ _; omega, fun hb hi => by
    obtain ⟨h0, h1, h2, h3⟩ := h hb
    refine ⟨?_, rfl⟩
    unfold rightJ
    show (lev i && (pf K u && (pf K a && pf K v))) = true
    rw [lev_of h0 hi, h1, h2, h3]; rfl⟩
/-- A premise that is right in its context. -/
structure Pr (K : Int) (j : Jd) : Prop where
  i : lev j.i = true
  u : pf K j.u = true
  a : pf K j.a = true
  v : j.eq = true → pf K j.v = true
theorem rightJ_Pr {K : Int} {j : Jd} (h : rightJ K j = true) : Pr K j := by
  unfold rightJ at h
  simp only [Bool.and_eq_true] at h
  refine ⟨h.1, h.2.1, h.2.2.1, fun he => ?_⟩
  have := h.2.2.2
  rw [if_pos he] at this
  exact this
theorem pf_pure {K : Int} {t : Tm} (h : pf K t = true) : t.pure = true := by
  unfold pf at h
  simp only [Bool.and_eq_true] at h
  exact h.1
theorem Pr.ai {K : Int} {j : Jd} (h : Pr K j) : -9223372036854775808 ≤ j.a.i + 1 ∧ j.a.i + 1 ≤ 9223372036854775807 := by
  have := node_i (marked_node (pure_marked (pf_pure h.a)))
  omega
theorem Pr.ai' {K : Int} {j : Jd} (h : Pr K j) : 0 ≤ j.a.i ∧ j.a.i ≤ 2147483647 := node_i (marked_node (pure_marked (pf_pure h.a)))
theorem Pr.sort {K : Int} {j : Jd} (h : Pr K j) {b : Bool} (ht : typedB j b = true) : j.eq = b ∧ lev j.a.i = true := by
  unfold typedB at ht
  simp only [Bool.and_eq_true, decide_eq_true_eq, beq_iff_eq] at ht
  obtain ⟨_, h1, h2⟩ := node_sort (marked_node (pure_marked (pf_pure h.a))) ht.2.1
  exact ⟨ht.1, lev_of h1 h2⟩
/-- A type that is a family of kind k. -/
theorem f103_ok {K : Int} {j : Jd} (h : Pr K j) (k : Int) (hk : k = 3 ∨ k = 6) :
    ∃ f b, f103 j k = some (f, b) ∧ famS j k = (if b = true then some f else none) ∧ f.a.size + f.b.size ≤ j.a.size + 2 ∧ (b = true → j.eq = false ∧ FmOk K f ∧ j.i = max f.i f.j) := by
  have hp := Tm.size_pos j.a
  have hz := tzero_size
  unfold f103 o103_0
  simp only [ifB_eq, decide_eq_true_eq, tz_eq]
  cases he : j.eq with
  | true => exact ⟨_, false, by rw [if_pos rfl], by simp [famS, he], by show tzero.size + tzero.size ≤ _; omega, fun h => by cases h⟩
  | false =>
  rw [if_neg (by simp)]
  by_cases hkk : j.a.kind = k
  case neg => exact ⟨_, false, by rw [if_pos (by simpa using hkk)], by simp [famS, hkk], by show tzero.size + tzero.size ≤ _; omega, fun h => by cases h⟩
  rw [if_neg (by simpa using hkk)]
  have hn := marked_node (pure_marked (pf_pure h.a))
  have hl := kids_len hn
  obtain ⟨l1, l2, l3⟩ := tnums_lev hn (by omega)
  have hl2 : j.a.kids.length = 2 := by
    have : tkids j.a.kind j.a.n = 2 := by rw [hkk]; rcases hk with rfl | rfl <;> rfl
    omega
  match hks : j.a.kids, hl2 with
  | [x, y], _ =>
    have hx := pf_kid h.a (by omega) (idx := 0) (x := x) (by rw [hks]; rfl)
    have hy := pf_kid h.a (by omega) (idx := 1) (x := y) (by rw [hks]; rfl)
    have hs : Tm.sizes j.a.kids + 1 ≤ j.a.size := by cases j.a; simp only [Tm.size, Tm.kids]; omega
    rw [hks] at hs
    simp only [Tm.sizes] at hs
    refine ⟨⟨j.a.i, j.a.j, x, y⟩, decide (j.i = max j.a.i j.a.j), ?_, by simp [famS, he, hkk, hks], by show x.size + y.size ≤ _; omega, fun hb => ⟨rfl, ⟨l1, l2, ?_, ?_⟩, by simpa using hb⟩⟩
    · unfold c103_1 o103_1
      rw [hks, at0, at1]
      simp only [Tm.eta, f102_eq, Option.bind_some]
    · rw [hkk] at hx
      rcases hk with rfl | rfl <;> simpa [tbinds] using hx
    · rw [hkk] at hy
      rcases hk with rfl | rfl <;> simpa [tbinds] using hy
theorem fm_typed {K : Int} {p q : Jd} {b b' : Bool} (hp : Pr K p) (hq : Pr (K + 1) q) (tp : typedB p b = true) (tq : typedB q b' = true) : FmOk K ⟨p.a.i, q.a.i, p.u, q.u⟩ :=
  ⟨(hp.sort tp).2, (hq.sort tq).2, hp.u, hq.u⟩
end Go.Proofs.YtcaahmielncmpaaGreat
