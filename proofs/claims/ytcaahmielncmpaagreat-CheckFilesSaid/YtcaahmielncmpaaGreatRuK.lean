/-
  Plain facts on what the functions compute.
-/
import Derived.Test.YtcaahmielncmpaaGreatRuJ
import Derived.Test.YtcaahmielncmpaaGreatGenQ
set_option linter.unusedSimpArgs false
set_option linter.unusedVariables false
namespace Go.Proofs.YtcaahmielncmpaaGreat
open Go
set_option maxRecDepth 20000

/-! ## The document's conclusions -/
def ConcR (S : Option Jd) (o : Option (Jd × Bool)) : Prop := ∃ J b, o = some (J, b) ∧ S = (if b = true then some J else none)
theorem concNo {S : Option Jd} (h : S = none) : ConcR S (some (zeroJ, false)) := ⟨zeroJ, false, rfl, by rw [h]; rfl⟩
theorem concYes {S : Option Jd} {J : Jd} (h : S = some J) : ConcR S (some (J, true)) := ⟨J, true, rfl, by rw [h]; rfl⟩
theorem f74_eq (u a : Tm) (i : Int) : f74 u a i = some (Jd.mk false u tzero a i, true) := by simp only [f74, o74_0, Tm.eta, tz_eq]
theorem f115_eq (u v a : Tm) (i : Int) : f115 u v a i = some (Jd.mk true u v a i, true) := by simp only [f115, o115_0, Tm.eta]
theorem mk_i (k i j n : Int) (ks : List Tm) : (Tm.mk k i j n ks).i = i := rfl
theorem mk_j (k i j n : Int) (ks : List Tm) : (Tm.mk k i j n ks).j = j := rfl
theorem mk_kids (k i j n : Int) (ks : List Tm) : (Tm.mk k i j n ks).kids = ks := rfl
theorem f75_eq (i : Int) : f75 i = some (Tm.mk 1 i 0 0 []) := rfl
theorem l111_ok (n : Nat) (k i j : Int) (ks : List Tm) (hk : ks.length ≤ 10) : ∀ (rest pre : List Tm) (m : Nat), ks = pre ++ rest → rest.length < m → l111_1 n m k i j ks 0 0 0 0 pre (pre.length : Int) = some (Tm.mk k i j 0 ks)
  | [], pre, m, h, hm => by
    obtain ⟨m, rfl⟩ := fuel hm
    simp only [l111_1, o111_1, decide_eq_true_eq, ifB_eq]
    rw [if_neg (ge_at h), h]; simp
  | x :: rest, pre, m, h, hm => by
    obtain ⟨m, rfl⟩ := fuel hm
    simp only [List.length_cons] at hm
    have hlt := len_of_eq h
    simp only [l111_1, o111_1, decide_eq_true_eq, ifB_eq, Tm.eta]
    rw [if_pos (lt_at h), atI_at h, ckB_eq (by simp only [List.length_cons, List.length_nil, Bool.and_eq_true, decide_eq_true_eq]; omega), ckI_eq (by omega)]
    have := l111_ok n k i j ks hk rest (pre ++ [x]) m (next_at h) (by omega)
    rw [len_snoc] at this
    exact this
theorem f111_ok {n : Nat} (hn : 20 < n) (k i j : Int) (ks : List Tm) (hk : ks.length ≤ 10) : f111 n k i j ks = some (Tm.mk k i j 0 ks) := by
  simp only [f111, o111_0]
  have := l111_ok n k i j ks hk ks [] n rfl (by omega)
  rw [len_nil] at this
  exact this
theorem typedB_of {j : Jd} {b : Bool} (h : typedB j b = true) : j.eq = b ∧ j.a.kind = 1 ∧ j.i = j.a.i + 1 := by
  unfold typedB at h
  simp only [Bool.and_eq_true, beq_iff_eq, decide_eq_true_eq] at h
  exact h
/-- A type that is a family of kind k, as the document looks for it. -/
theorem f112_ok {K : Int} {j : Jd} (h : Pr K j) (k : Int) (hk : k = 3 ∨ k = 6) : ∃ f b, f112 j k = some (f.i, f.j, f.a, f.b, b) ∧ famS j k = (if b = true then some f else none) ∧ (b = true → FmOk K f ∧ f.a.size + f.b.size ≤ j.a.size ∧ j.a = Tm.mk k f.i f.j 0 [f.a, f.b] ∧ j.i = max f.i f.j ∧ j.eq = false) := by
  have hno : c112_1 j 0 0 0 0 0 0 0 0 true = some (0, 0, tzero, tzero, false) := by unfold c112_1 o112_1; simp only [ifB_eq, if_true, tz_eq]
  unfold f112 o112_0
  simp only [ifB_eq, decide_eq_true_eq]
  cases he : j.eq with
  | true => exact ⟨⟨0, 0, tzero, tzero⟩, false, by rw [if_pos rfl, hno], by simp [famS, he], fun h => by cases h⟩
  | false =>
  rw [if_neg (by simp)]
  by_cases hkk : j.a.kind = k
  case neg => exact ⟨⟨0, 0, tzero, tzero⟩, false, by rw [if_pos (by simpa using hkk), hno], by simp [famS, hkk], fun h => by cases h⟩
  rw [if_neg (by simpa using hkk)]
  have hn := marked_node (pure_marked (pf_pure h.a))
  have hl := kids_len hn
  obtain ⟨l1, l2, l3⟩ := tnums_lev hn (by omega)
  have hl2 : j.a.kids.length = 2 := by
    have : tkids j.a.kind j.a.n = 2 := by rw [hkk]; rcases hk with rfl | rfl <;> rfl
    omega
  rw [if_neg (by omega)]
  match hks : j.a.kids, hl2 with
  | [x, y], _ =>
    have hx := pf_kid h.a (by omega) (idx := 0) (x := x) (by rw [hks]; rfl)
    have hy := pf_kid h.a (by omega) (idx := 1) (x := y) (by rw [hks]; rfl)
    have hs : Tm.sizes j.a.kids + 1 ≤ j.a.size := by cases j.a; simp only [Tm.size, Tm.kids]; omega
    rw [hks] at hs
    simp only [Tm.sizes] at hs
    by_cases hm : j.i = max j.a.i j.a.j
    case neg =>
      refine ⟨⟨0, 0, tzero, tzero⟩, false, ?_, by simp [famS, hm], fun h => by cases h⟩
      rw [show (!decide (j.i = max j.a.i j.a.j)) = true by simp [hm], hno]
    refine ⟨⟨j.a.i, j.a.j, x, y⟩, true, ?_, by simp [famS, he, hkk, hks, hm], fun _ => ⟨⟨l1, l2, ?_, ?_⟩, by show x.size + y.size ≤ _; omega, ?_, hm, rfl⟩⟩
    · rw [show (!decide (j.i = max j.a.i j.a.j)) = false by simp [hm]]
      unfold c112_1 o112_1
      simp only [ifB_eq, Bool.false_eq_true, if_false]
      rw [hks, at0, at1]
    · rw [hkk] at hx
      rcases hk with rfl | rfl <;> simpa [tbinds] using hx
    · rw [hkk] at hy
      rcases hk with rfl | rfl <;> simpa [tbinds] using hy
    · show j.a = Tm.mk k j.a.i j.a.j 0 [x, y]
      rw [← hks, ← hkk, ← l3, Tm.eta]
theorem d3_ok {K : Int} {n : Nat} (hn : 20000000 < n) (hK : 0 ≤ K) (hK1 : K ≤ 900) {p : Jd} {q : Jd} (rp : rightJ K p = true) (sp : jsz p ≤ 1002) (rq : rightJ (K + 1) q = true) (sq : jsz q ≤ 1002) (ep : typedB p false = true) : ConcR (s3 3 p q) (f77 n 3 [p, q]) := by
  unfold jsz at sp sq
  have hB := BIG_eq
  have n2 : ∀ (k i j : Int) (x y : Tm), f111 n k i j [x, y] = some (Tm.mk k i j 0 [x, y]) := fun k i j x y => f111_ok (by omega) k i j _ (by simp)
  have n3 : ∀ (k i j : Int) (x y z : Tm), f111 n k i j [x, y, z] = some (Tm.mk k i j 0 [x, y, z]) := fun k i j x y z => f111_ok (by omega) k i j _ (by simp)
  have n4 : ∀ (k i j : Int) (x y z w : Tm), f111 n k i j [x, y, z, w] = some (Tm.mk k i j 0 [x, y, z, w]) := fun k i j x y z w => f111_ok (by omega) k i j _ (by simp)
  have hp := rightJ_Pr rp
  have jp := rightJ_RJ rp
  have gp := And.intro (Tm.size_pos p.u) (And.intro (Tm.size_pos p.v) (Tm.size_pos p.a))
  have tp : ∀ b, f53 n p b = some (p.i - 1, typedB p b) := fun b => f53_ok n jp b (by omega) (by omega)
  have lp := lev_range hp.i
  have hq := rightJ_Pr rq
  have jq := rightJ_RJ rq
  have gq := And.intro (Tm.size_pos q.u) (And.intro (Tm.size_pos q.v) (Tm.size_pos q.a))
  have tq : ∀ b, f53 n q b = some (q.i - 1, typedB q b) := fun b => f53_ok n jq b (by omega) (by omega)
  have lq := lev_range hq.i
  obtain ⟨a1, a2, a3⟩ := typedB_of ep
  have e1 : p.i - 1 = p.a.i := by omega
  simp only [f77, o77_0, c77_1, o77_1, c77_2, o77_2, c77_3, o77_3, c77_4, o77_4, c77_5, o77_5, c77_6, o77_6, ifB_eq, Int.reduceEq, decide_true, decide_false, if_true, if_false, reduceIte, Bool.false_eq_true, Option.bind_some, at0, at1, at2, at3, Tm.eta, tz_eq, zj_eq, jd_eta, f74_eq, f115_eq, f75_eq, n2, n3, n4, Bool.not_true, Bool.not_false, tp, tq]
  cases hq2 : typedB q false with
  | false => simp only [ifB_eq, Int.reduceEq, decide_true, decide_false, if_true, if_false, reduceIte, Bool.false_eq_true, Option.bind_some, at0, at1, at2, at3, Tm.eta, tz_eq, zj_eq, jd_eta, f74_eq, f115_eq, f75_eq, n2, n3, n4, Bool.not_true, Bool.not_false]; exact concNo (by simp [s3, hq2])
  | true =>
    obtain ⟨b1, b2, b3⟩ := typedB_of hq2
    have e2 : q.i - 1 = q.a.i := by omega
    simp only [ifB_eq, Int.reduceEq, decide_true, decide_false, if_true, if_false, reduceIte, Bool.false_eq_true, Option.bind_some, at0, at1, at2, at3, Tm.eta, tz_eq, zj_eq, jd_eta, f74_eq, f115_eq, f75_eq, n2, n3, n4, Bool.not_true, Bool.not_false, e1, e2]
    have e3 : inB (max p.a.i q.a.i + 1) = true := (inB_iff _).2 (by omega)
    rw [ckI_eq (by omega)]
    exact concYes (by simp [s3, hq2, ep])
theorem d6_ok {K : Int} {n : Nat} (hn : 20000000 < n) (hK : 0 ≤ K) (hK1 : K ≤ 900) {p : Jd} {q : Jd} (rp : rightJ K p = true) (sp : jsz p ≤ 1002) (rq : rightJ (K + 1) q = true) (sq : jsz q ≤ 1002) (ep : typedB p false = true) : ConcR (s3 6 p q) (f77 n 6 [p, q]) := by
  unfold jsz at sp sq
  have hB := BIG_eq
  have n2 : ∀ (k i j : Int) (x y : Tm), f111 n k i j [x, y] = some (Tm.mk k i j 0 [x, y]) := fun k i j x y => f111_ok (by omega) k i j _ (by simp)
  have n3 : ∀ (k i j : Int) (x y z : Tm), f111 n k i j [x, y, z] = some (Tm.mk k i j 0 [x, y, z]) := fun k i j x y z => f111_ok (by omega) k i j _ (by simp)
  have n4 : ∀ (k i j : Int) (x y z w : Tm), f111 n k i j [x, y, z, w] = some (Tm.mk k i j 0 [x, y, z, w]) := fun k i j x y z w => f111_ok (by omega) k i j _ (by simp)
  have hp := rightJ_Pr rp
  have jp := rightJ_RJ rp
  have gp := And.intro (Tm.size_pos p.u) (And.intro (Tm.size_pos p.v) (Tm.size_pos p.a))
  have tp : ∀ b, f53 n p b = some (p.i - 1, typedB p b) := fun b => f53_ok n jp b (by omega) (by omega)
  have lp := lev_range hp.i
  have hq := rightJ_Pr rq
  have jq := rightJ_RJ rq
  have gq := And.intro (Tm.size_pos q.u) (And.intro (Tm.size_pos q.v) (Tm.size_pos q.a))
  have tq : ∀ b, f53 n q b = some (q.i - 1, typedB q b) := fun b => f53_ok n jq b (by omega) (by omega)
  have lq := lev_range hq.i
  obtain ⟨a1, a2, a3⟩ := typedB_of ep
  have e1 : p.i - 1 = p.a.i := by omega
  simp only [f77, o77_0, c77_1, o77_1, c77_2, o77_2, c77_3, o77_3, c77_4, o77_4, c77_5, o77_5, c77_6, o77_6, ifB_eq, Int.reduceEq, decide_true, decide_false, if_true, if_false, reduceIte, Bool.false_eq_true, Option.bind_some, at0, at1, at2, at3, Tm.eta, tz_eq, zj_eq, jd_eta, f74_eq, f115_eq, f75_eq, n2, n3, n4, Bool.not_true, Bool.not_false, tp, tq]
  cases hq2 : typedB q false with
  | false => simp only [ifB_eq, Int.reduceEq, decide_true, decide_false, if_true, if_false, reduceIte, Bool.false_eq_true, Option.bind_some, at0, at1, at2, at3, Tm.eta, tz_eq, zj_eq, jd_eta, f74_eq, f115_eq, f75_eq, n2, n3, n4, Bool.not_true, Bool.not_false]; exact concNo (by simp [s3, hq2])
  | true =>
    obtain ⟨b1, b2, b3⟩ := typedB_of hq2
    have e2 : q.i - 1 = q.a.i := by omega
    simp only [ifB_eq, Int.reduceEq, decide_true, decide_false, if_true, if_false, reduceIte, Bool.false_eq_true, Option.bind_some, at0, at1, at2, at3, Tm.eta, tz_eq, zj_eq, jd_eta, f74_eq, f115_eq, f75_eq, n2, n3, n4, Bool.not_true, Bool.not_false, e1, e2]
    have e3 : inB (max p.a.i q.a.i + 1) = true := (inB_iff _).2 (by omega)
    rw [ckI_eq (by omega)]
    exact concYes (by simp [s3, hq2, ep])
theorem d4_ok {K : Int} {n : Nat} (hn : 20000000 < n) (hK : 0 ≤ K) (hK1 : K ≤ 900) {p : Jd} {q : Jd} (rp : rightJ K p = true) (sp : jsz p ≤ 1002) (rq : rightJ (K + 1) q = true) (sq : jsz q ≤ 1002) (ep : typedB p false = true) : ConcR (s4 p q) (f77 n 4 [p, q]) := by
  unfold jsz at sp sq
  have hB := BIG_eq
  have n2 : ∀ (k i j : Int) (x y : Tm), f111 n k i j [x, y] = some (Tm.mk k i j 0 [x, y]) := fun k i j x y => f111_ok (by omega) k i j _ (by simp)
  have n3 : ∀ (k i j : Int) (x y z : Tm), f111 n k i j [x, y, z] = some (Tm.mk k i j 0 [x, y, z]) := fun k i j x y z => f111_ok (by omega) k i j _ (by simp)
  have n4 : ∀ (k i j : Int) (x y z w : Tm), f111 n k i j [x, y, z, w] = some (Tm.mk k i j 0 [x, y, z, w]) := fun k i j x y z w => f111_ok (by omega) k i j _ (by simp)
  have hp := rightJ_Pr rp
  have jp := rightJ_RJ rp
  have gp := And.intro (Tm.size_pos p.u) (And.intro (Tm.size_pos p.v) (Tm.size_pos p.a))
  have tp : ∀ b, f53 n p b = some (p.i - 1, typedB p b) := fun b => f53_ok n jp b (by omega) (by omega)
  have lp := lev_range hp.i
  have hq := rightJ_Pr rq
  have jq := rightJ_RJ rq
  have gq := And.intro (Tm.size_pos q.u) (And.intro (Tm.size_pos q.v) (Tm.size_pos q.a))
  have tq : ∀ b, f53 n q b = some (q.i - 1, typedB q b) := fun b => f53_ok n jq b (by omega) (by omega)
  have lq := lev_range hq.i
  obtain ⟨a1, a2, a3⟩ := typedB_of ep
  have e1 : p.i - 1 = p.a.i := by omega
  simp only [f77, o77_0, c77_1, o77_1, c77_2, o77_2, c77_3, o77_3, c77_4, o77_4, c77_5, o77_5, c77_6, o77_6, ifB_eq, Int.reduceEq, decide_true, decide_false, if_true, if_false, reduceIte, Bool.false_eq_true, Option.bind_some, at0, at1, at2, at3, Tm.eta, tz_eq, zj_eq, jd_eta, f74_eq, f115_eq, f75_eq, n2, n3, n4, Bool.not_true, Bool.not_false, tp]
  cases he : q.eq with
  | true => simp only [ifB_eq, Int.reduceEq, decide_true, decide_false, if_true, if_false, reduceIte, Bool.false_eq_true, Option.bind_some, at0, at1, at2, at3, Tm.eta, tz_eq, zj_eq, jd_eta, f74_eq, f115_eq, f75_eq, n2, n3, n4, Bool.not_true, Bool.not_false]; exact concNo (by simp [s4, he])
  | false => simp only [ifB_eq, Int.reduceEq, decide_true, decide_false, if_true, if_false, reduceIte, Bool.false_eq_true, Option.bind_some, at0, at1, at2, at3, Tm.eta, tz_eq, zj_eq, jd_eta, f74_eq, f115_eq, f75_eq, n2, n3, n4, Bool.not_true, Bool.not_false, e1]; exact concYes (by simp [s4, he, ep])
theorem d5_ok {K : Int} {n : Nat} (hn : 20000000 < n) (hK : 0 ≤ K) (hK1 : K ≤ 900) {p : Jd} {q : Jd} (rp : rightJ K p = true) (sp : jsz p ≤ 1002) (rq : rightJ K q = true) (sq : jsz q ≤ 1002) : ConcR (s5 p q) (f77 n 5 [p, q]) := by
  unfold jsz at sp sq
  have hB := BIG_eq
  have n2 : ∀ (k i j : Int) (x y : Tm), f111 n k i j [x, y] = some (Tm.mk k i j 0 [x, y]) := fun k i j x y => f111_ok (by omega) k i j _ (by simp)
  have n3 : ∀ (k i j : Int) (x y z : Tm), f111 n k i j [x, y, z] = some (Tm.mk k i j 0 [x, y, z]) := fun k i j x y z => f111_ok (by omega) k i j _ (by simp)
  have n4 : ∀ (k i j : Int) (x y z w : Tm), f111 n k i j [x, y, z, w] = some (Tm.mk k i j 0 [x, y, z, w]) := fun k i j x y z w => f111_ok (by omega) k i j _ (by simp)
  have hp := rightJ_Pr rp
  have jp := rightJ_RJ rp
  have gp := And.intro (Tm.size_pos p.u) (And.intro (Tm.size_pos p.v) (Tm.size_pos p.a))
  have tp : ∀ b, f53 n p b = some (p.i - 1, typedB p b) := fun b => f53_ok n jp b (by omega) (by omega)
  have lp := lev_range hp.i
  have hq := rightJ_Pr rq
  have jq := rightJ_RJ rq
  have gq := And.intro (Tm.size_pos q.u) (And.intro (Tm.size_pos q.v) (Tm.size_pos q.a))
  have tq : ∀ b, f53 n q b = some (q.i - 1, typedB q b) := fun b => f53_ok n jq b (by omega) (by omega)
  have lq := lev_range hq.i
  obtain ⟨f, b, hf, hS, fo⟩ := f112_ok hp 3 (.inl rfl)
  simp only [f77, o77_0, c77_1, o77_1, c77_2, o77_2, c77_3, o77_3, c77_4, o77_4, c77_5, o77_5, c77_6, o77_6, ifB_eq, Int.reduceEq, decide_true, decide_false, if_true, if_false, reduceIte, Bool.false_eq_true, Option.bind_some, at0, at1, at2, at3, Tm.eta, tz_eq, zj_eq, jd_eta, f74_eq, f115_eq, f75_eq, n2, n3, n4, Bool.not_true, Bool.not_false, hf]
  cases b with
  | false => simp only [ifB_eq, Int.reduceEq, decide_true, decide_false, if_true, if_false, reduceIte, Bool.false_eq_true, Option.bind_some, at0, at1, at2, at3, Tm.eta, tz_eq, zj_eq, jd_eta, f74_eq, f115_eq, f75_eq, n2, n3, n4, Bool.not_true, Bool.not_false]; exact concNo (by simp [s5, hS])
  | true =>
    obtain ⟨f1, f2, f3, f4, f5⟩ := fo rfl
    cases he : q.eq with
    | true => simp only [ifB_eq, Int.reduceEq, decide_true, decide_false, if_true, if_false, reduceIte, Bool.false_eq_true, Option.bind_some, at0, at1, at2, at3, Tm.eta, tz_eq, zj_eq, jd_eta, f74_eq, f115_eq, f75_eq, n2, n3, n4, Bool.not_true, Bool.not_false]; exact concNo (by simp [s5, hS, hasB, he])
    | false =>
    by_cases hi : q.i = f.i
    case neg => simp only [ifB_eq, Int.reduceEq, decide_true, decide_false, if_true, if_false, reduceIte, Bool.false_eq_true, Option.bind_some, at0, at1, at2, at3, Tm.eta, tz_eq, zj_eq, jd_eta, f74_eq, f115_eq, f75_eq, n2, n3, n4, Bool.not_true, Bool.not_false, hi]; exact concNo (by simp [s5, hS, hasB, hi])
    simp only [ifB_eq, Int.reduceEq, decide_true, decide_false, if_true, if_false, reduceIte, Bool.false_eq_true, Option.bind_some, at0, at1, at2, at3, Tm.eta, tz_eq, zj_eq, jd_eta, f74_eq, f115_eq, f75_eq, n2, n3, n4, Bool.not_true, Bool.not_false, hi, f88_ok n q.a f.a (by omega) (by omega)]
    cases hs : q.a.same f.a with
    | false => simp only [ifB_eq, Int.reduceEq, decide_true, decide_false, if_true, if_false, reduceIte, Bool.false_eq_true, Option.bind_some, at0, at1, at2, at3, Tm.eta, tz_eq, zj_eq, jd_eta, f74_eq, f115_eq, f75_eq, n2, n3, n4, Bool.not_true, Bool.not_false]; exact concNo (by simp [s5, hS, hasB, hs])
    | true => simp only [ifB_eq, Int.reduceEq, decide_true, decide_false, if_true, if_false, reduceIte, Bool.false_eq_true, Option.bind_some, at0, at1, at2, at3, Tm.eta, tz_eq, zj_eq, jd_eta, f74_eq, f115_eq, f75_eq, n2, n3, n4, Bool.not_true, Bool.not_false, f113_ok n f.b q.u (by omega) (by omega) (by omega)]; exact concYes (by simp [s5, hS, hasB, hs, hi, he])
/-- A pair of three premises, as the document looks for it. -/
theorem f114_ok {K : Int} {n : Nat} (hn : 20000000 < n) {p q s : Jd} (rp : rightJ K p = true) (sp : jsz p ≤ 1002) (rq : rightJ (K + 1) q = true) (sq : jsz q ≤ 1002) (rs : rightJ K s = true) (ss : jsz s ≤ 1002) :
    ∃ t A B j b, f114 n p q s = some (t, A, B, j, b) ∧ (b = false → pairS p q s = none) ∧ (b = true → pairS p q s = some (⟨p.i, q.a.i, p.a, q.u⟩, t) ∧ t = Tm.mk 7 p.i q.a.i 0 [p.a, q.u, p.u, s.u] ∧ A = Tm.mk 6 p.i q.a.i 0 [p.a, q.u] ∧ B = q.u.putZ p.u ∧ j = q.a.i) := by
  unfold jsz at sp sq ss
  have hB := BIG_eq
  have n2 : ∀ (k i j : Int) (x y : Tm), f111 n k i j [x, y] = some (Tm.mk k i j 0 [x, y]) := fun k i j x y => f111_ok (by omega) k i j _ (by simp)
  have n3 : ∀ (k i j : Int) (x y z : Tm), f111 n k i j [x, y, z] = some (Tm.mk k i j 0 [x, y, z]) := fun k i j x y z => f111_ok (by omega) k i j _ (by simp)
  have n4 : ∀ (k i j : Int) (x y z w : Tm), f111 n k i j [x, y, z, w] = some (Tm.mk k i j 0 [x, y, z, w]) := fun k i j x y z w => f111_ok (by omega) k i j _ (by simp)
  have jq := rightJ_RJ rq
  have g := And.intro (Tm.size_pos p.u) (And.intro (Tm.size_pos p.v) (Tm.size_pos p.a))
  have g' := And.intro (Tm.size_pos q.u) (And.intro (Tm.size_pos q.v) (Tm.size_pos q.a))
  have tq : ∀ b, f53 n q b = some (q.i - 1, typedB q b) := fun b => f53_ok n jq b (by omega) (by omega)
  simp only [f114, o114_0, c114_1, o114_1, c114_2, o114_2, ifB_eq, Int.reduceEq, decide_true, decide_false, if_true, if_false, reduceIte, Bool.false_eq_true, Option.bind_some, at0, at1, at2, at3, Tm.eta, tz_eq, zj_eq, jd_eta, f74_eq, f115_eq, f75_eq, n2, n3, n4, Bool.not_true, Bool.not_false, tq]
  cases hp : p.eq with
  | true => simp only [ifB_eq, Int.reduceEq, decide_true, decide_false, if_true, if_false, reduceIte, Bool.false_eq_true, Option.bind_some, at0, at1, at2, at3, Tm.eta, tz_eq, zj_eq, jd_eta, f74_eq, f115_eq, f75_eq, n2, n3, n4, Bool.not_true, Bool.not_false]; exact ⟨_, _, _, _, _, rfl, fun _ => by simp [pairS, hp], fun h => by cases h⟩
  | false =>
  cases hs : s.eq with
  | true => simp only [ifB_eq, Int.reduceEq, decide_true, decide_false, if_true, if_false, reduceIte, Bool.false_eq_true, Option.bind_some, at0, at1, at2, at3, Tm.eta, tz_eq, zj_eq, jd_eta, f74_eq, f115_eq, f75_eq, n2, n3, n4, Bool.not_true, Bool.not_false]; exact ⟨_, _, _, _, _, rfl, fun _ => by simp [pairS, hasB, hs], fun h => by cases h⟩
  | false =>
  cases ht : typedB q false with
  | false => simp only [ifB_eq, Int.reduceEq, decide_true, decide_false, if_true, if_false, reduceIte, Bool.false_eq_true, Option.bind_some, at0, at1, at2, at3, Tm.eta, tz_eq, zj_eq, jd_eta, f74_eq, f115_eq, f75_eq, n2, n3, n4, Bool.not_true, Bool.not_false]; exact ⟨_, _, _, _, _, rfl, fun _ => by simp [pairS, ht], fun h => by cases h⟩
  | true =>
  obtain ⟨b1, b2, b3⟩ := typedB_of ht
  have e2 : q.i - 1 = q.a.i := by omega
  simp only [ifB_eq, Int.reduceEq, decide_true, decide_false, if_true, if_false, reduceIte, Bool.false_eq_true, Option.bind_some, at0, at1, at2, at3, Tm.eta, tz_eq, zj_eq, jd_eta, f74_eq, f115_eq, f75_eq, n2, n3, n4, Bool.not_true, Bool.not_false, e2, f113_ok n q.u p.u (by omega) (by omega) (by omega)]
  by_cases hi : s.i = q.a.i
  case neg => simp only [ifB_eq, Int.reduceEq, decide_true, decide_false, if_true, if_false, reduceIte, Bool.false_eq_true, Option.bind_some, at0, at1, at2, at3, Tm.eta, tz_eq, zj_eq, jd_eta, f74_eq, f115_eq, f75_eq, n2, n3, n4, Bool.not_true, Bool.not_false, hi]; exact ⟨_, _, _, _, _, rfl, fun _ => by simp [pairS, hasB, hi], fun h => by cases h⟩
  simp only [ifB_eq, Int.reduceEq, decide_true, decide_false, if_true, if_false, reduceIte, Bool.false_eq_true, Option.bind_some, at0, at1, at2, at3, Tm.eta, tz_eq, zj_eq, jd_eta, f74_eq, f115_eq, f75_eq, n2, n3, n4, Bool.not_true, Bool.not_false, hi, f88_ok n s.a (q.u.putZ p.u) (by omega) (by omega)]
  cases hm : s.a.same (q.u.putZ p.u) with
  | false => simp only [ifB_eq, Int.reduceEq, decide_true, decide_false, if_true, if_false, reduceIte, Bool.false_eq_true, Option.bind_some, at0, at1, at2, at3, Tm.eta, tz_eq, zj_eq, jd_eta, f74_eq, f115_eq, f75_eq, n2, n3, n4, Bool.not_true, Bool.not_false]; exact ⟨_, _, _, _, _, rfl, fun _ => by simp [pairS, hasB, hm], fun h => by cases h⟩
  | true => simp only [ifB_eq, Int.reduceEq, decide_true, decide_false, if_true, if_false, reduceIte, Bool.false_eq_true, Option.bind_some, at0, at1, at2, at3, Tm.eta, tz_eq, zj_eq, jd_eta, f74_eq, f115_eq, f75_eq, n2, n3, n4, Bool.not_true, Bool.not_false]; exact ⟨_, _, _, _, _, rfl, (fun h => by cases h), fun _ => ⟨by simp [pairS, hasB, hm, hi, hs, hp, ht], rfl, rfl, rfl, rfl⟩⟩
theorem d7_ok {K : Int} {n : Nat} (hn : 20000000 < n) (hK : 0 ≤ K) (hK1 : K ≤ 900) {p : Jd} {q : Jd} {s : Jd} (rp : rightJ K p = true) (sp : jsz p ≤ 1002) (rq : rightJ (K + 1) q = true) (sq : jsz q ≤ 1002) (rs : rightJ K s = true) (ss : jsz s ≤ 1002) : ConcR (s7 p q s) (f77 n 7 [p, q, s]) := by
  unfold jsz at sp sq ss
  have hB := BIG_eq
  have n2 : ∀ (k i j : Int) (x y : Tm), f111 n k i j [x, y] = some (Tm.mk k i j 0 [x, y]) := fun k i j x y => f111_ok (by omega) k i j _ (by simp)
  have n3 : ∀ (k i j : Int) (x y z : Tm), f111 n k i j [x, y, z] = some (Tm.mk k i j 0 [x, y, z]) := fun k i j x y z => f111_ok (by omega) k i j _ (by simp)
  have n4 : ∀ (k i j : Int) (x y z w : Tm), f111 n k i j [x, y, z, w] = some (Tm.mk k i j 0 [x, y, z, w]) := fun k i j x y z w => f111_ok (by omega) k i j _ (by simp)
  have hp := rightJ_Pr rp
  have jp := rightJ_RJ rp
  have gp := And.intro (Tm.size_pos p.u) (And.intro (Tm.size_pos p.v) (Tm.size_pos p.a))
  have tp : ∀ b, f53 n p b = some (p.i - 1, typedB p b) := fun b => f53_ok n jp b (by omega) (by omega)
  have lp := lev_range hp.i
  have hq := rightJ_Pr rq
  have jq := rightJ_RJ rq
  have gq := And.intro (Tm.size_pos q.u) (And.intro (Tm.size_pos q.v) (Tm.size_pos q.a))
  have tq : ∀ b, f53 n q b = some (q.i - 1, typedB q b) := fun b => f53_ok n jq b (by omega) (by omega)
  have lq := lev_range hq.i
  have hs := rightJ_Pr rs
  have js := rightJ_RJ rs
  have gs := And.intro (Tm.size_pos s.u) (And.intro (Tm.size_pos s.v) (Tm.size_pos s.a))
  have ts : ∀ b, f53 n s b = some (s.i - 1, typedB s b) := fun b => f53_ok n js b (by omega) (by omega)
  have ls := lev_range hs.i
  obtain ⟨t, A, B, j, b, hf, h0, h1⟩ := f114_ok hn rp (by unfold jsz; omega) rq (by unfold jsz; omega) rs (by unfold jsz; omega)
  simp only [f77, o77_0, c77_1, o77_1, c77_2, o77_2, c77_3, o77_3, c77_4, o77_4, c77_5, o77_5, c77_6, o77_6, ifB_eq, Int.reduceEq, decide_true, decide_false, if_true, if_false, reduceIte, Bool.false_eq_true, Option.bind_some, at0, at1, at2, at3, Tm.eta, tz_eq, zj_eq, jd_eta, f74_eq, f115_eq, f75_eq, n2, n3, n4, Bool.not_true, Bool.not_false, hf]
  cases b with
  | false => simp only [ifB_eq, Int.reduceEq, decide_true, decide_false, if_true, if_false, reduceIte, Bool.false_eq_true, Option.bind_some, at0, at1, at2, at3, Tm.eta, tz_eq, zj_eq, jd_eta, f74_eq, f115_eq, f75_eq, n2, n3, n4, Bool.not_true, Bool.not_false]; exact concNo (by simp [s7, h0 rfl])
  | true =>
    obtain ⟨e0, rfl, rfl, rfl, rfl⟩ := h1 rfl
    simp only [ifB_eq, Int.reduceEq, decide_true, decide_false, if_true, if_false, reduceIte, Bool.false_eq_true, Option.bind_some, at0, at1, at2, at3, Tm.eta, tz_eq, zj_eq, jd_eta, f74_eq, f115_eq, f75_eq, n2, n3, n4, Bool.not_true, Bool.not_false, mk_i, mk_j]; exact concYes (by simp [s7, e0])
theorem d8_ok {K : Int} {n : Nat} (hn : 20000000 < n) (hK : 0 ≤ K) (hK1 : K ≤ 900) {p : Jd} (rp : rightJ K p = true) (sp : jsz p ≤ 1002) : ConcR (s8 p) (f77 n 8 [p]) := by
  unfold jsz at sp
  have hB := BIG_eq
  have n2 : ∀ (k i j : Int) (x y : Tm), f111 n k i j [x, y] = some (Tm.mk k i j 0 [x, y]) := fun k i j x y => f111_ok (by omega) k i j _ (by simp)
  have n3 : ∀ (k i j : Int) (x y z : Tm), f111 n k i j [x, y, z] = some (Tm.mk k i j 0 [x, y, z]) := fun k i j x y z => f111_ok (by omega) k i j _ (by simp)
  have n4 : ∀ (k i j : Int) (x y z w : Tm), f111 n k i j [x, y, z, w] = some (Tm.mk k i j 0 [x, y, z, w]) := fun k i j x y z w => f111_ok (by omega) k i j _ (by simp)
  have hp := rightJ_Pr rp
  have jp := rightJ_RJ rp
  have gp := And.intro (Tm.size_pos p.u) (And.intro (Tm.size_pos p.v) (Tm.size_pos p.a))
  have tp : ∀ b, f53 n p b = some (p.i - 1, typedB p b) := fun b => f53_ok n jp b (by omega) (by omega)
  have lp := lev_range hp.i
  obtain ⟨f, b, hf, hS, fo⟩ := f112_ok hp 6 (.inr rfl)
  simp only [f77, o77_0, c77_1, o77_1, c77_2, o77_2, c77_3, o77_3, c77_4, o77_4, c77_5, o77_5, c77_6, o77_6, ifB_eq, Int.reduceEq, decide_true, decide_false, if_true, if_false, reduceIte, Bool.false_eq_true, Option.bind_some, at0, at1, at2, at3, Tm.eta, tz_eq, zj_eq, jd_eta, f74_eq, f115_eq, f75_eq, n2, n3, n4, Bool.not_true, Bool.not_false, hf]
  cases b with
  | false => simp only [ifB_eq, Int.reduceEq, decide_true, decide_false, if_true, if_false, reduceIte, Bool.false_eq_true, Option.bind_some, at0, at1, at2, at3, Tm.eta, tz_eq, zj_eq, jd_eta, f74_eq, f115_eq, f75_eq, n2, n3, n4, Bool.not_true, Bool.not_false]; exact concNo (by simp [s8, hS])
  | true =>
    obtain ⟨f1, f2, f3, f4, f5⟩ := fo rfl
    have hfst : (Tm.mk 8 f.i f.j 0 [f.a, f.b, p.u]).size ≤ 4000 := by simp only [Tm.size, Tm.sizes]; omega
    simp only [ifB_eq, Int.reduceEq, decide_true, decide_false, if_true, if_false, reduceIte, Bool.false_eq_true, Option.bind_some, at0, at1, at2, at3, Tm.eta, tz_eq, zj_eq, jd_eta, f74_eq, f115_eq, f75_eq, n2, n3, n4, Bool.not_true, Bool.not_false]; exact concYes (by simp [s8, hS])
theorem d9_ok {K : Int} {n : Nat} (hn : 20000000 < n) (hK : 0 ≤ K) (hK1 : K ≤ 900) {p : Jd} (rp : rightJ K p = true) (sp : jsz p ≤ 1002) : ConcR (s9 p) (f77 n 9 [p]) := by
  unfold jsz at sp
  have hB := BIG_eq
  have n2 : ∀ (k i j : Int) (x y : Tm), f111 n k i j [x, y] = some (Tm.mk k i j 0 [x, y]) := fun k i j x y => f111_ok (by omega) k i j _ (by simp)
  have n3 : ∀ (k i j : Int) (x y z : Tm), f111 n k i j [x, y, z] = some (Tm.mk k i j 0 [x, y, z]) := fun k i j x y z => f111_ok (by omega) k i j _ (by simp)
  have n4 : ∀ (k i j : Int) (x y z w : Tm), f111 n k i j [x, y, z, w] = some (Tm.mk k i j 0 [x, y, z, w]) := fun k i j x y z w => f111_ok (by omega) k i j _ (by simp)
  have hp := rightJ_Pr rp
  have jp := rightJ_RJ rp
  have gp := And.intro (Tm.size_pos p.u) (And.intro (Tm.size_pos p.v) (Tm.size_pos p.a))
  have tp : ∀ b, f53 n p b = some (p.i - 1, typedB p b) := fun b => f53_ok n jp b (by omega) (by omega)
  have lp := lev_range hp.i
  obtain ⟨f, b, hf, hS, fo⟩ := f112_ok hp 6 (.inr rfl)
  simp only [f77, o77_0, c77_1, o77_1, c77_2, o77_2, c77_3, o77_3, c77_4, o77_4, c77_5, o77_5, c77_6, o77_6, ifB_eq, Int.reduceEq, decide_true, decide_false, if_true, if_false, reduceIte, Bool.false_eq_true, Option.bind_some, at0, at1, at2, at3, Tm.eta, tz_eq, zj_eq, jd_eta, f74_eq, f115_eq, f75_eq, n2, n3, n4, Bool.not_true, Bool.not_false, hf]
  cases b with
  | false => simp only [ifB_eq, Int.reduceEq, decide_true, decide_false, if_true, if_false, reduceIte, Bool.false_eq_true, Option.bind_some, at0, at1, at2, at3, Tm.eta, tz_eq, zj_eq, jd_eta, f74_eq, f115_eq, f75_eq, n2, n3, n4, Bool.not_true, Bool.not_false]; exact concNo (by simp [s9, hS])
  | true =>
    obtain ⟨f1, f2, f3, f4, f5⟩ := fo rfl
    have hfst : (Tm.mk 8 f.i f.j 0 [f.a, f.b, p.u]).size ≤ 4000 := by simp only [Tm.size, Tm.sizes]; omega
    simp only [ifB_eq, Int.reduceEq, decide_true, decide_false, if_true, if_false, reduceIte, Bool.false_eq_true, Option.bind_some, at0, at1, at2, at3, Tm.eta, tz_eq, zj_eq, jd_eta, f74_eq, f115_eq, f75_eq, n2, n3, n4, Bool.not_true, Bool.not_false, f113_ok n f.b (Tm.mk 8 f.i f.j 0 [f.a, f.b, p.u]) (by omega) (by omega) (by omega)]; exact concYes (by simp [s9, hS])
theorem d10_ok {K : Int} {n : Nat} (hn : 20000000 < n) (hK : 0 ≤ K) (hK1 : K ≤ 900) {p : Jd} {q : Jd} (rp : rightJ K p = true) (sp : jsz p ≤ 1002) (rq : rightJ K q = true) (sq : jsz q ≤ 1002) : ConcR (s10 p q) (f77 n 10 [p, q]) := by
  unfold jsz at sp sq
  have hB := BIG_eq
  have n2 : ∀ (k i j : Int) (x y : Tm), f111 n k i j [x, y] = some (Tm.mk k i j 0 [x, y]) := fun k i j x y => f111_ok (by omega) k i j _ (by simp)
  have n3 : ∀ (k i j : Int) (x y z : Tm), f111 n k i j [x, y, z] = some (Tm.mk k i j 0 [x, y, z]) := fun k i j x y z => f111_ok (by omega) k i j _ (by simp)
  have n4 : ∀ (k i j : Int) (x y z w : Tm), f111 n k i j [x, y, z, w] = some (Tm.mk k i j 0 [x, y, z, w]) := fun k i j x y z w => f111_ok (by omega) k i j _ (by simp)
  have hp := rightJ_Pr rp
  have jp := rightJ_RJ rp
  have gp := And.intro (Tm.size_pos p.u) (And.intro (Tm.size_pos p.v) (Tm.size_pos p.a))
  have tp : ∀ b, f53 n p b = some (p.i - 1, typedB p b) := fun b => f53_ok n jp b (by omega) (by omega)
  have lp := lev_range hp.i
  have hq := rightJ_Pr rq
  have jq := rightJ_RJ rq
  have gq := And.intro (Tm.size_pos q.u) (And.intro (Tm.size_pos q.v) (Tm.size_pos q.a))
  have tq : ∀ b, f53 n q b = some (q.i - 1, typedB q b) := fun b => f53_ok n jq b (by omega) (by omega)
  have lq := lev_range hq.i
  cases hp2 : p.eq with
  | true => simp only [f77, o77_0, c77_1, o77_1, c77_2, o77_2, c77_3, o77_3, c77_4, o77_4, c77_5, o77_5, c77_6, o77_6, ifB_eq, Int.reduceEq, decide_true, decide_false, if_true, if_false, reduceIte, Bool.false_eq_true, Option.bind_some, at0, at1, at2, at3, Tm.eta, tz_eq, zj_eq, jd_eta, f74_eq, f115_eq, f75_eq, n2, n3, n4, Bool.not_true, Bool.not_false, hp2]; exact concNo (by simp [s10, hp2])
  | false =>
  cases hq2 : q.eq with
  | true => simp only [f77, o77_0, c77_1, o77_1, c77_2, o77_2, c77_3, o77_3, c77_4, o77_4, c77_5, o77_5, c77_6, o77_6, ifB_eq, Int.reduceEq, decide_true, decide_false, if_true, if_false, reduceIte, Bool.false_eq_true, Option.bind_some, at0, at1, at2, at3, Tm.eta, tz_eq, zj_eq, jd_eta, f74_eq, f115_eq, f75_eq, n2, n3, n4, Bool.not_true, Bool.not_false, hp2, hq2]; exact concNo (by simp [s10, hasB, hq2])
  | false =>
  by_cases hi : p.i = q.i
  case neg => simp only [f77, o77_0, c77_1, o77_1, c77_2, o77_2, c77_3, o77_3, c77_4, o77_4, c77_5, o77_5, c77_6, o77_6, ifB_eq, Int.reduceEq, decide_true, decide_false, if_true, if_false, reduceIte, Bool.false_eq_true, Option.bind_some, at0, at1, at2, at3, Tm.eta, tz_eq, zj_eq, jd_eta, f74_eq, f115_eq, f75_eq, n2, n3, n4, Bool.not_true, Bool.not_false, hp2, hq2, hi]; exact concNo (by simp [s10, hasB, Ne.symm hi])
  simp only [f77, o77_0, c77_1, o77_1, c77_2, o77_2, c77_3, o77_3, c77_4, o77_4, c77_5, o77_5, c77_6, o77_6, ifB_eq, Int.reduceEq, decide_true, decide_false, if_true, if_false, reduceIte, Bool.false_eq_true, Option.bind_some, at0, at1, at2, at3, Tm.eta, tz_eq, zj_eq, jd_eta, f74_eq, f115_eq, f75_eq, n2, n3, n4, Bool.not_true, Bool.not_false, hp2, hq2, hi, f88_ok n p.a q.a (by omega) (by omega)]
  by_cases hs : p.a = q.a
  · have e1 := (Tm.same_iff p.a q.a).2 hs
    have e2 := (Tm.same_iff q.a p.a).2 hs.symm
    simp only [ifB_eq, Int.reduceEq, decide_true, decide_false, if_true, if_false, reduceIte, Bool.false_eq_true, Option.bind_some, at0, at1, at2, at3, Tm.eta, tz_eq, zj_eq, jd_eta, f74_eq, f115_eq, f75_eq, n2, n3, n4, Bool.not_true, Bool.not_false, e1]
    rw [ckI_eq (by omega)]
    exact concYes (by simp [s10, hasB, e2, hi, hp2, hq2])
  · have e1 : p.a.same q.a = false := by cases hx : p.a.same q.a with
      | true => exact (hs ((Tm.same_iff _ _).1 hx)).elim
      | false => rfl
    have e2 : q.a.same p.a = false := by cases hx : q.a.same p.a with
      | true => exact (hs ((Tm.same_iff _ _).1 hx).symm).elim
      | false => rfl
    simp only [ifB_eq, Int.reduceEq, decide_true, decide_false, if_true, if_false, reduceIte, Bool.false_eq_true, Option.bind_some, at0, at1, at2, at3, Tm.eta, tz_eq, zj_eq, jd_eta, f74_eq, f115_eq, f75_eq, n2, n3, n4, Bool.not_true, Bool.not_false, e1]
    exact concNo (by simp [s10, hasB, e2])
theorem d11_ok {K : Int} {n : Nat} (hn : 20000000 < n) (hK : 0 ≤ K) (hK1 : K ≤ 900) {p : Jd} (rp : rightJ K p = true) (sp : jsz p ≤ 1002) : ConcR (s11 p) (f77 n 11 [p]) := by
  unfold jsz at sp
  have hB := BIG_eq
  have n2 : ∀ (k i j : Int) (x y : Tm), f111 n k i j [x, y] = some (Tm.mk k i j 0 [x, y]) := fun k i j x y => f111_ok (by omega) k i j _ (by simp)
  have n3 : ∀ (k i j : Int) (x y z : Tm), f111 n k i j [x, y, z] = some (Tm.mk k i j 0 [x, y, z]) := fun k i j x y z => f111_ok (by omega) k i j _ (by simp)
  have n4 : ∀ (k i j : Int) (x y z w : Tm), f111 n k i j [x, y, z, w] = some (Tm.mk k i j 0 [x, y, z, w]) := fun k i j x y z w => f111_ok (by omega) k i j _ (by simp)
  have hp := rightJ_Pr rp
  have jp := rightJ_RJ rp
  have gp := And.intro (Tm.size_pos p.u) (And.intro (Tm.size_pos p.v) (Tm.size_pos p.a))
  have tp : ∀ b, f53 n p b = some (p.i - 1, typedB p b) := fun b => f53_ok n jp b (by omega) (by omega)
  have lp := lev_range hp.i
  cases hp2 : p.eq with
  | true => simp only [f77, o77_0, c77_1, o77_1, c77_2, o77_2, c77_3, o77_3, c77_4, o77_4, c77_5, o77_5, c77_6, o77_6, ifB_eq, Int.reduceEq, decide_true, decide_false, if_true, if_false, reduceIte, Bool.false_eq_true, Option.bind_some, at0, at1, at2, at3, Tm.eta, tz_eq, zj_eq, jd_eta, f74_eq, f115_eq, f75_eq, n2, n3, n4, Bool.not_true, Bool.not_false, hp2]; exact concNo (by simp [s11, hp2])
  | false => simp only [f77, o77_0, c77_1, o77_1, c77_2, o77_2, c77_3, o77_3, c77_4, o77_4, c77_5, o77_5, c77_6, o77_6, ifB_eq, Int.reduceEq, decide_true, decide_false, if_true, if_false, reduceIte, Bool.false_eq_true, Option.bind_some, at0, at1, at2, at3, Tm.eta, tz_eq, zj_eq, jd_eta, f74_eq, f115_eq, f75_eq, n2, n3, n4, Bool.not_true, Bool.not_false, hp2]; exact concYes (by simp [s11, hp2])
theorem d12_ok {K : Int} {n : Nat} (hn : 20000000 < n) (hK : 0 ≤ K) (hK1 : K ≤ 900) {p : Jd} {q : Jd} (rp : rightJ K p = true) (sp : jsz p ≤ 1002) (rq : rightJ K q = true) (sq : jsz q ≤ 1002) : ConcR (s12 p q) (f77 n 12 [p, q]) := by
  unfold jsz at sp sq
  have hB := BIG_eq
  have n2 : ∀ (k i j : Int) (x y : Tm), f111 n k i j [x, y] = some (Tm.mk k i j 0 [x, y]) := fun k i j x y => f111_ok (by omega) k i j _ (by simp)
  have n3 : ∀ (k i j : Int) (x y z : Tm), f111 n k i j [x, y, z] = some (Tm.mk k i j 0 [x, y, z]) := fun k i j x y z => f111_ok (by omega) k i j _ (by simp)
  have n4 : ∀ (k i j : Int) (x y z w : Tm), f111 n k i j [x, y, z, w] = some (Tm.mk k i j 0 [x, y, z, w]) := fun k i j x y z w => f111_ok (by omega) k i j _ (by simp)
  have hp := rightJ_Pr rp
  have jp := rightJ_RJ rp
  have gp := And.intro (Tm.size_pos p.u) (And.intro (Tm.size_pos p.v) (Tm.size_pos p.a))
  have tp : ∀ b, f53 n p b = some (p.i - 1, typedB p b) := fun b => f53_ok n jp b (by omega) (by omega)
  have lp := lev_range hp.i
  have hq := rightJ_Pr rq
  have jq := rightJ_RJ rq
  have gq := And.intro (Tm.size_pos q.u) (And.intro (Tm.size_pos q.v) (Tm.size_pos q.a))
  have tq : ∀ b, f53 n q b = some (q.i - 1, typedB q b) := fun b => f53_ok n jq b (by omega) (by omega)
  have lq := lev_range hq.i
  cases hp2 : p.eq with
  | true => simp only [f77, o77_0, c77_1, o77_1, c77_2, o77_2, c77_3, o77_3, c77_4, o77_4, c77_5, o77_5, c77_6, o77_6, ifB_eq, Int.reduceEq, decide_true, decide_false, if_true, if_false, reduceIte, Bool.false_eq_true, Option.bind_some, at0, at1, at2, at3, Tm.eta, tz_eq, zj_eq, jd_eta, f74_eq, f115_eq, f75_eq, n2, n3, n4, Bool.not_true, Bool.not_false, hp2, tq]; exact concNo (by simp [s12, hp2])
  | false =>
  cases ht : typedB q true with
  | false => simp only [f77, o77_0, c77_1, o77_1, c77_2, o77_2, c77_3, o77_3, c77_4, o77_4, c77_5, o77_5, c77_6, o77_6, ifB_eq, Int.reduceEq, decide_true, decide_false, if_true, if_false, reduceIte, Bool.false_eq_true, Option.bind_some, at0, at1, at2, at3, Tm.eta, tz_eq, zj_eq, jd_eta, f74_eq, f115_eq, f75_eq, n2, n3, n4, Bool.not_true, Bool.not_false, hp2, tq, ht]; exact concNo (by simp [s12, convB, ht])
  | true =>
  obtain ⟨b1, b2, b3⟩ := typedB_of ht
  have e2 : q.i - 1 = q.a.i := by omega
  by_cases hi : p.i = q.a.i
  case neg => simp only [f77, o77_0, c77_1, o77_1, c77_2, o77_2, c77_3, o77_3, c77_4, o77_4, c77_5, o77_5, c77_6, o77_6, ifB_eq, Int.reduceEq, decide_true, decide_false, if_true, if_false, reduceIte, Bool.false_eq_true, Option.bind_some, at0, at1, at2, at3, Tm.eta, tz_eq, zj_eq, jd_eta, f74_eq, f115_eq, f75_eq, n2, n3, n4, Bool.not_true, Bool.not_false, hp2, tq, ht, e2, hi]; exact concNo (by simp [s12, convB, Ne.symm hi])
  simp only [f77, o77_0, c77_1, o77_1, c77_2, o77_2, c77_3, o77_3, c77_4, o77_4, c77_5, o77_5, c77_6, o77_6, ifB_eq, Int.reduceEq, decide_true, decide_false, if_true, if_false, reduceIte, Bool.false_eq_true, Option.bind_some, at0, at1, at2, at3, Tm.eta, tz_eq, zj_eq, jd_eta, f74_eq, f115_eq, f75_eq, n2, n3, n4, Bool.not_true, Bool.not_false, hp2, tq, ht, e2, hi, f88_ok n p.a q.u (by omega) (by omega)]
  cases hs : p.a.same q.u with
  | false => simp only [ifB_eq, Int.reduceEq, decide_true, decide_false, if_true, if_false, reduceIte, Bool.false_eq_true, Option.bind_some, at0, at1, at2, at3, Tm.eta, tz_eq, zj_eq, jd_eta, f74_eq, f115_eq, f75_eq, n2, n3, n4, Bool.not_true, Bool.not_false]; exact concNo (by simp [s12, convB, hs])
  | true => simp only [ifB_eq, Int.reduceEq, decide_true, decide_false, if_true, if_false, reduceIte, Bool.false_eq_true, Option.bind_some, at0, at1, at2, at3, Tm.eta, tz_eq, zj_eq, jd_eta, f74_eq, f115_eq, f75_eq, n2, n3, n4, Bool.not_true, Bool.not_false]; exact concYes (by simp [s12, convB, hs, hi, hp2, ht])
theorem d16_ok {K : Int} {n : Nat} (hn : 20000000 < n) (hK : 0 ≤ K) (hK1 : K ≤ 900) {p : Jd} {q : Jd} (rp : rightJ K p = true) (sp : jsz p ≤ 1002) (rq : rightJ K q = true) (sq : jsz q ≤ 1002) : ConcR (s16 p q) (f80 n 16 [p, q]) := by
  unfold jsz at sp sq
  have hB := BIG_eq
  have n2 : ∀ (k i j : Int) (x y : Tm), f111 n k i j [x, y] = some (Tm.mk k i j 0 [x, y]) := fun k i j x y => f111_ok (by omega) k i j _ (by simp)
  have n3 : ∀ (k i j : Int) (x y z : Tm), f111 n k i j [x, y, z] = some (Tm.mk k i j 0 [x, y, z]) := fun k i j x y z => f111_ok (by omega) k i j _ (by simp)
  have n4 : ∀ (k i j : Int) (x y z w : Tm), f111 n k i j [x, y, z, w] = some (Tm.mk k i j 0 [x, y, z, w]) := fun k i j x y z w => f111_ok (by omega) k i j _ (by simp)
  have hp := rightJ_Pr rp
  have jp := rightJ_RJ rp
  have gp := And.intro (Tm.size_pos p.u) (And.intro (Tm.size_pos p.v) (Tm.size_pos p.a))
  have tp : ∀ b, f53 n p b = some (p.i - 1, typedB p b) := fun b => f53_ok n jp b (by omega) (by omega)
  have lp := lev_range hp.i
  have hq := rightJ_Pr rq
  have jq := rightJ_RJ rq
  have gq := And.intro (Tm.size_pos q.u) (And.intro (Tm.size_pos q.v) (Tm.size_pos q.a))
  have tq : ∀ b, f53 n q b = some (q.i - 1, typedB q b) := fun b => f53_ok n jq b (by omega) (by omega)
  have lq := lev_range hq.i
  cases hp2 : p.eq with
  | false => simp only [f80, o80_0, c80_1, o80_1, c80_2, o80_2, c80_3, o80_3, c80_4, o80_4, ifB_eq, Int.reduceEq, decide_true, decide_false, if_true, if_false, reduceIte, Bool.false_eq_true, Option.bind_some, at0, at1, at2, at3, Tm.eta, tz_eq, zj_eq, jd_eta, f74_eq, f115_eq, f75_eq, n2, n3, n4, Bool.not_true, Bool.not_false, hp2, tq]; exact concNo (by simp [s16, hp2])
  | true =>
  cases ht : typedB q true with
  | false => simp only [f80, o80_0, c80_1, o80_1, c80_2, o80_2, c80_3, o80_3, c80_4, o80_4, ifB_eq, Int.reduceEq, decide_true, decide_false, if_true, if_false, reduceIte, Bool.false_eq_true, Option.bind_some, at0, at1, at2, at3, Tm.eta, tz_eq, zj_eq, jd_eta, f74_eq, f115_eq, f75_eq, n2, n3, n4, Bool.not_true, Bool.not_false, hp2, tq, ht]; exact concNo (by simp [s16, convB, ht])
  | true =>
  obtain ⟨b1, b2, b3⟩ := typedB_of ht
  have e2 : q.i - 1 = q.a.i := by omega
  by_cases hi : p.i = q.a.i
  case neg => simp only [f80, o80_0, c80_1, o80_1, c80_2, o80_2, c80_3, o80_3, c80_4, o80_4, ifB_eq, Int.reduceEq, decide_true, decide_false, if_true, if_false, reduceIte, Bool.false_eq_true, Option.bind_some, at0, at1, at2, at3, Tm.eta, tz_eq, zj_eq, jd_eta, f74_eq, f115_eq, f75_eq, n2, n3, n4, Bool.not_true, Bool.not_false, hp2, tq, ht, e2, hi]; exact concNo (by simp [s16, convB, Ne.symm hi])
  simp only [f80, o80_0, c80_1, o80_1, c80_2, o80_2, c80_3, o80_3, c80_4, o80_4, ifB_eq, Int.reduceEq, decide_true, decide_false, if_true, if_false, reduceIte, Bool.false_eq_true, Option.bind_some, at0, at1, at2, at3, Tm.eta, tz_eq, zj_eq, jd_eta, f74_eq, f115_eq, f75_eq, n2, n3, n4, Bool.not_true, Bool.not_false, hp2, tq, ht, e2, hi, f88_ok n p.a q.u (by omega) (by omega)]
  cases hs : p.a.same q.u with
  | false => simp only [ifB_eq, Int.reduceEq, decide_true, decide_false, if_true, if_false, reduceIte, Bool.false_eq_true, Option.bind_some, at0, at1, at2, at3, Tm.eta, tz_eq, zj_eq, jd_eta, f74_eq, f115_eq, f75_eq, n2, n3, n4, Bool.not_true, Bool.not_false]; exact concNo (by simp [s16, convB, hs])
  | true => simp only [ifB_eq, Int.reduceEq, decide_true, decide_false, if_true, if_false, reduceIte, Bool.false_eq_true, Option.bind_some, at0, at1, at2, at3, Tm.eta, tz_eq, zj_eq, jd_eta, f74_eq, f115_eq, f75_eq, n2, n3, n4, Bool.not_true, Bool.not_false]; exact concYes (by simp [s16, convB, hs, hi, hp2, ht])
theorem d13_ok {K : Int} {n : Nat} (hn : 20000000 < n) (hK : 0 ≤ K) (hK1 : K ≤ 900) {p : Jd} (rp : rightJ K p = true) (sp : jsz p ≤ 1002) : ConcR (s13 p) (f80 n 13 [p]) := by
  unfold jsz at sp
  have hB := BIG_eq
  have n2 : ∀ (k i j : Int) (x y : Tm), f111 n k i j [x, y] = some (Tm.mk k i j 0 [x, y]) := fun k i j x y => f111_ok (by omega) k i j _ (by simp)
  have n3 : ∀ (k i j : Int) (x y z : Tm), f111 n k i j [x, y, z] = some (Tm.mk k i j 0 [x, y, z]) := fun k i j x y z => f111_ok (by omega) k i j _ (by simp)
  have n4 : ∀ (k i j : Int) (x y z w : Tm), f111 n k i j [x, y, z, w] = some (Tm.mk k i j 0 [x, y, z, w]) := fun k i j x y z w => f111_ok (by omega) k i j _ (by simp)
  have hp := rightJ_Pr rp
  have jp := rightJ_RJ rp
  have gp := And.intro (Tm.size_pos p.u) (And.intro (Tm.size_pos p.v) (Tm.size_pos p.a))
  have tp : ∀ b, f53 n p b = some (p.i - 1, typedB p b) := fun b => f53_ok n jp b (by omega) (by omega)
  have lp := lev_range hp.i
  cases hp2 : p.eq with
  | true => simp only [f80, o80_0, c80_1, o80_1, c80_2, o80_2, c80_3, o80_3, c80_4, o80_4, ifB_eq, Int.reduceEq, decide_true, decide_false, if_true, if_false, reduceIte, Bool.false_eq_true, Option.bind_some, at0, at1, at2, at3, Tm.eta, tz_eq, zj_eq, jd_eta, f74_eq, f115_eq, f75_eq, n2, n3, n4, Bool.not_true, Bool.not_false, hp2]; exact concNo (by simp [s13, hp2])
  | false => simp only [f80, o80_0, c80_1, o80_1, c80_2, o80_2, c80_3, o80_3, c80_4, o80_4, ifB_eq, Int.reduceEq, decide_true, decide_false, if_true, if_false, reduceIte, Bool.false_eq_true, Option.bind_some, at0, at1, at2, at3, Tm.eta, tz_eq, zj_eq, jd_eta, f74_eq, f115_eq, f75_eq, n2, n3, n4, Bool.not_true, Bool.not_false, hp2]; exact concYes (by simp [s13, hp2])
theorem d14_ok {K : Int} {n : Nat} (hn : 20000000 < n) (hK : 0 ≤ K) (hK1 : K ≤ 900) {p : Jd} (rp : rightJ K p = true) (sp : jsz p ≤ 1002) : ConcR (s14 p) (f80 n 14 [p]) := by
  unfold jsz at sp
  have hB := BIG_eq
  have n2 : ∀ (k i j : Int) (x y : Tm), f111 n k i j [x, y] = some (Tm.mk k i j 0 [x, y]) := fun k i j x y => f111_ok (by omega) k i j _ (by simp)
  have n3 : ∀ (k i j : Int) (x y z : Tm), f111 n k i j [x, y, z] = some (Tm.mk k i j 0 [x, y, z]) := fun k i j x y z => f111_ok (by omega) k i j _ (by simp)
  have n4 : ∀ (k i j : Int) (x y z w : Tm), f111 n k i j [x, y, z, w] = some (Tm.mk k i j 0 [x, y, z, w]) := fun k i j x y z w => f111_ok (by omega) k i j _ (by simp)
  have hp := rightJ_Pr rp
  have jp := rightJ_RJ rp
  have gp := And.intro (Tm.size_pos p.u) (And.intro (Tm.size_pos p.v) (Tm.size_pos p.a))
  have tp : ∀ b, f53 n p b = some (p.i - 1, typedB p b) := fun b => f53_ok n jp b (by omega) (by omega)
  have lp := lev_range hp.i
  cases hp2 : p.eq with
  | false => simp only [f80, o80_0, c80_1, o80_1, c80_2, o80_2, c80_3, o80_3, c80_4, o80_4, ifB_eq, Int.reduceEq, decide_true, decide_false, if_true, if_false, reduceIte, Bool.false_eq_true, Option.bind_some, at0, at1, at2, at3, Tm.eta, tz_eq, zj_eq, jd_eta, f74_eq, f115_eq, f75_eq, n2, n3, n4, Bool.not_true, Bool.not_false, hp2]; exact concNo (by simp [s14, hp2])
  | true => simp only [f80, o80_0, c80_1, o80_1, c80_2, o80_2, c80_3, o80_3, c80_4, o80_4, ifB_eq, Int.reduceEq, decide_true, decide_false, if_true, if_false, reduceIte, Bool.false_eq_true, Option.bind_some, at0, at1, at2, at3, Tm.eta, tz_eq, zj_eq, jd_eta, f74_eq, f115_eq, f75_eq, n2, n3, n4, Bool.not_true, Bool.not_false, hp2]; exact concYes (by simp [s14, hp2])
theorem d15_ok {K : Int} {n : Nat} (hn : 20000000 < n) (hK : 0 ≤ K) (hK1 : K ≤ 900) {p : Jd} {q : Jd} (rp : rightJ K p = true) (sp : jsz p ≤ 1002) (rq : rightJ K q = true) (sq : jsz q ≤ 1002) : ConcR (s15 p q) (f80 n 15 [p, q]) := by
  unfold jsz at sp sq
  have hB := BIG_eq
  have n2 : ∀ (k i j : Int) (x y : Tm), f111 n k i j [x, y] = some (Tm.mk k i j 0 [x, y]) := fun k i j x y => f111_ok (by omega) k i j _ (by simp)
  have n3 : ∀ (k i j : Int) (x y z : Tm), f111 n k i j [x, y, z] = some (Tm.mk k i j 0 [x, y, z]) := fun k i j x y z => f111_ok (by omega) k i j _ (by simp)
  have n4 : ∀ (k i j : Int) (x y z w : Tm), f111 n k i j [x, y, z, w] = some (Tm.mk k i j 0 [x, y, z, w]) := fun k i j x y z w => f111_ok (by omega) k i j _ (by simp)
  have hp := rightJ_Pr rp
  have jp := rightJ_RJ rp
  have gp := And.intro (Tm.size_pos p.u) (And.intro (Tm.size_pos p.v) (Tm.size_pos p.a))
  have tp : ∀ b, f53 n p b = some (p.i - 1, typedB p b) := fun b => f53_ok n jp b (by omega) (by omega)
  have lp := lev_range hp.i
  have hq := rightJ_Pr rq
  have jq := rightJ_RJ rq
  have gq := And.intro (Tm.size_pos q.u) (And.intro (Tm.size_pos q.v) (Tm.size_pos q.a))
  have tq : ∀ b, f53 n q b = some (q.i - 1, typedB q b) := fun b => f53_ok n jq b (by omega) (by omega)
  have lq := lev_range hq.i
  cases hp2 : p.eq with
  | false => simp only [f80, o80_0, c80_1, o80_1, c80_2, o80_2, c80_3, o80_3, c80_4, o80_4, ifB_eq, Int.reduceEq, decide_true, decide_false, if_true, if_false, reduceIte, Bool.false_eq_true, Option.bind_some, at0, at1, at2, at3, Tm.eta, tz_eq, zj_eq, jd_eta, f74_eq, f115_eq, f75_eq, n2, n3, n4, Bool.not_true, Bool.not_false, hp2]; exact concNo (by simp [s15, hp2])
  | true =>
  cases hq2 : q.eq with
  | false => simp only [f80, o80_0, c80_1, o80_1, c80_2, o80_2, c80_3, o80_3, c80_4, o80_4, ifB_eq, Int.reduceEq, decide_true, decide_false, if_true, if_false, reduceIte, Bool.false_eq_true, Option.bind_some, at0, at1, at2, at3, Tm.eta, tz_eq, zj_eq, jd_eta, f74_eq, f115_eq, f75_eq, n2, n3, n4, Bool.not_true, Bool.not_false, hp2, hq2]; exact concNo (by simp [s15, hasB, hq2])
  | true =>
  by_cases hi : p.i = q.i
  case neg => simp only [f80, o80_0, c80_1, o80_1, c80_2, o80_2, c80_3, o80_3, c80_4, o80_4, ifB_eq, Int.reduceEq, decide_true, decide_false, if_true, if_false, reduceIte, Bool.false_eq_true, Option.bind_some, at0, at1, at2, at3, Tm.eta, tz_eq, zj_eq, jd_eta, f74_eq, f115_eq, f75_eq, n2, n3, n4, Bool.not_true, Bool.not_false, hp2, hq2, hi]; exact concNo (by simp [s15, hasB, Ne.symm hi])
  simp only [f80, o80_0, c80_1, o80_1, c80_2, o80_2, c80_3, o80_3, c80_4, o80_4, ifB_eq, Int.reduceEq, decide_true, decide_false, if_true, if_false, reduceIte, Bool.false_eq_true, Option.bind_some, at0, at1, at2, at3, Tm.eta, tz_eq, zj_eq, jd_eta, f74_eq, f115_eq, f75_eq, n2, n3, n4, Bool.not_true, Bool.not_false, hp2, hq2, hi, f88_ok n p.a q.a (by omega) (by omega)]
  by_cases hs : p.a = q.a
  case neg =>
    have e1 : p.a.same q.a = false := by cases hx : p.a.same q.a with
      | true => exact (hs ((Tm.same_iff _ _).1 hx)).elim
      | false => rfl
    have e2 : q.a.same p.a = false := by cases hx : q.a.same p.a with
      | true => exact (hs ((Tm.same_iff _ _).1 hx).symm).elim
      | false => rfl
    simp only [ifB_eq, Int.reduceEq, decide_true, decide_false, if_true, if_false, reduceIte, Bool.false_eq_true, Option.bind_some, at0, at1, at2, at3, Tm.eta, tz_eq, zj_eq, jd_eta, f74_eq, f115_eq, f75_eq, n2, n3, n4, Bool.not_true, Bool.not_false, e1]
    exact concNo (by simp [s15, hasB, e2])
  have e1 := (Tm.same_iff p.a q.a).2 hs
  have e2 := (Tm.same_iff q.a p.a).2 hs.symm
  simp only [ifB_eq, Int.reduceEq, decide_true, decide_false, if_true, if_false, reduceIte, Bool.false_eq_true, Option.bind_some, at0, at1, at2, at3, Tm.eta, tz_eq, zj_eq, jd_eta, f74_eq, f115_eq, f75_eq, n2, n3, n4, Bool.not_true, Bool.not_false, e1, f88_ok n p.v q.u (by omega) (by omega)]
  cases hv : p.v.same q.u with
  | false => simp only [ifB_eq, Int.reduceEq, decide_true, decide_false, if_true, if_false, reduceIte, Bool.false_eq_true, Option.bind_some, at0, at1, at2, at3, Tm.eta, tz_eq, zj_eq, jd_eta, f74_eq, f115_eq, f75_eq, n2, n3, n4, Bool.not_true, Bool.not_false]; exact concNo (by simp [s15, hv])
  | true => simp only [ifB_eq, Int.reduceEq, decide_true, decide_false, if_true, if_false, reduceIte, Bool.false_eq_true, Option.bind_some, at0, at1, at2, at3, Tm.eta, tz_eq, zj_eq, jd_eta, f74_eq, f115_eq, f75_eq, n2, n3, n4, Bool.not_true, Bool.not_false]; exact concYes (by simp [s15, hasB, e2, hi, hp2, hq2, hv])
theorem d17_ok {K : Int} {n : Nat} (hn : 20000000 < n) (hK : 0 ≤ K) (hK1 : K ≤ 900) {p : Jd} (rp : rightJ K p = true) (sp : jsz p ≤ 1002) : ConcR (s17 p) (f80 n 17 [p]) := by
  unfold jsz at sp
  have hB := BIG_eq
  have n2 : ∀ (k i j : Int) (x y : Tm), f111 n k i j [x, y] = some (Tm.mk k i j 0 [x, y]) := fun k i j x y => f111_ok (by omega) k i j _ (by simp)
  have n3 : ∀ (k i j : Int) (x y z : Tm), f111 n k i j [x, y, z] = some (Tm.mk k i j 0 [x, y, z]) := fun k i j x y z => f111_ok (by omega) k i j _ (by simp)
  have n4 : ∀ (k i j : Int) (x y z w : Tm), f111 n k i j [x, y, z, w] = some (Tm.mk k i j 0 [x, y, z, w]) := fun k i j x y z w => f111_ok (by omega) k i j _ (by simp)
  have hp := rightJ_Pr rp
  have jp := rightJ_RJ rp
  have gp := And.intro (Tm.size_pos p.u) (And.intro (Tm.size_pos p.v) (Tm.size_pos p.a))
  have tp : ∀ b, f53 n p b = some (p.i - 1, typedB p b) := fun b => f53_ok n jp b (by omega) (by omega)
  have lp := lev_range hp.i
  cases hp2 : p.eq with
  | true => simp only [f80, o80_0, c80_1, o80_1, c80_2, o80_2, c80_3, o80_3, c80_4, o80_4, ifB_eq, Int.reduceEq, decide_true, decide_false, if_true, if_false, reduceIte, Bool.false_eq_true, Option.bind_some, at0, at1, at2, at3, Tm.eta, tz_eq, zj_eq, jd_eta, f74_eq, f115_eq, f75_eq, n2, n3, n4, Bool.not_true, Bool.not_false, hp2]; exact concNo (by simp [s17, hp2])
  | false =>
  by_cases h1 : p.a.kind = 10
  case neg => simp only [f80, o80_0, c80_1, o80_1, c80_2, o80_2, c80_3, o80_3, c80_4, o80_4, ifB_eq, Int.reduceEq, decide_true, decide_false, if_true, if_false, reduceIte, Bool.false_eq_true, Option.bind_some, at0, at1, at2, at3, Tm.eta, tz_eq, zj_eq, jd_eta, f74_eq, f115_eq, f75_eq, n2, n3, n4, Bool.not_true, Bool.not_false, hp2, h1]; exact concNo (by simp [s17, h1])
  by_cases h2 : p.i = p.a.i
  case neg => simp only [f80, o80_0, c80_1, o80_1, c80_2, o80_2, c80_3, o80_3, c80_4, o80_4, ifB_eq, Int.reduceEq, decide_true, decide_false, if_true, if_false, reduceIte, Bool.false_eq_true, Option.bind_some, at0, at1, at2, at3, Tm.eta, tz_eq, zj_eq, jd_eta, f74_eq, f115_eq, f75_eq, n2, n3, n4, Bool.not_true, Bool.not_false, hp2, h1, h2]; exact concNo (by simp [s17, Ne.symm h2])
  have hnd := marked_node (pure_marked (pf_pure hp.a))
  have hl := kids_len hnd
  have hl3 : p.a.kids.length = 3 := by
    have : tkids p.a.kind p.a.n = 3 := by rw [h1]; rfl
    omega
  match hks : p.a.kids, hl3 with
  | [x, y, z], _ =>
    simp only [f80, o80_0, c80_1, o80_1, c80_2, o80_2, c80_3, o80_3, c80_4, o80_4, ifB_eq, Int.reduceEq, decide_true, decide_false, if_true, if_false, reduceIte, Bool.false_eq_true, Option.bind_some, at0, at1, at2, at3, Tm.eta, tz_eq, zj_eq, jd_eta, f74_eq, f115_eq, f75_eq, n2, n3, n4, Bool.not_true, Bool.not_false, hp2, h1, ← h2, hks]
    exact concYes (by simp [s17, hp2, h1, ← h2, hks])
theorem d18_ok {K : Int} {n : Nat} (hn : 20000000 < n) (hK : 0 ≤ K) (hK1 : K ≤ 900) {p : Jd} {q : Jd} (rp : rightJ K p = true) (sp : jsz p ≤ 1002) (rq : rightJ (K + 1) q = true) (sq : jsz q ≤ 1002) (ep : p.eq = false) : ConcR (s18 p q) (f79 n 18 [p, q]) := by
  unfold jsz at sp sq
  have hB := BIG_eq
  have n2 : ∀ (k i j : Int) (x y : Tm), f111 n k i j [x, y] = some (Tm.mk k i j 0 [x, y]) := fun k i j x y => f111_ok (by omega) k i j _ (by simp)
  have n3 : ∀ (k i j : Int) (x y z : Tm), f111 n k i j [x, y, z] = some (Tm.mk k i j 0 [x, y, z]) := fun k i j x y z => f111_ok (by omega) k i j _ (by simp)
  have n4 : ∀ (k i j : Int) (x y z w : Tm), f111 n k i j [x, y, z, w] = some (Tm.mk k i j 0 [x, y, z, w]) := fun k i j x y z w => f111_ok (by omega) k i j _ (by simp)
  have hp := rightJ_Pr rp
  have jp := rightJ_RJ rp
  have gp := And.intro (Tm.size_pos p.u) (And.intro (Tm.size_pos p.v) (Tm.size_pos p.a))
  have tp : ∀ b, f53 n p b = some (p.i - 1, typedB p b) := fun b => f53_ok n jp b (by omega) (by omega)
  have lp := lev_range hp.i
  have hq := rightJ_Pr rq
  have jq := rightJ_RJ rq
  have gq := And.intro (Tm.size_pos q.u) (And.intro (Tm.size_pos q.v) (Tm.size_pos q.a))
  have tq : ∀ b, f53 n q b = some (q.i - 1, typedB q b) := fun b => f53_ok n jq b (by omega) (by omega)
  have lq := lev_range hq.i
  cases hq2 : q.eq with
  | true => simp only [f79, o79_0, c79_1, o79_1, ifB_eq, Int.reduceEq, decide_true, decide_false, if_true, if_false, reduceIte, Bool.false_eq_true, Option.bind_some, at0, at1, at2, at3, Tm.eta, tz_eq, zj_eq, jd_eta, f74_eq, f115_eq, f75_eq, n2, n3, n4, Bool.not_true, Bool.not_false, hq2]; exact concNo (by simp [s18, hq2])
  | false => simp only [f79, o79_0, c79_1, o79_1, ifB_eq, Int.reduceEq, decide_true, decide_false, if_true, if_false, reduceIte, Bool.false_eq_true, Option.bind_some, at0, at1, at2, at3, Tm.eta, tz_eq, zj_eq, jd_eta, f74_eq, f115_eq, f75_eq, n2, n3, n4, Bool.not_true, Bool.not_false, hq2, f113_ok n q.u p.u (by omega) (by omega) (by omega), f113_ok n q.a p.u (by omega) (by omega) (by omega)]; exact concYes (by simp [s18, hq2, ep])
theorem d19_ok {K : Int} {n : Nat} (hn : 20000000 < n) (hK : 0 ≤ K) (hK1 : K ≤ 900) {p : Jd} {q : Jd} {s : Jd} (rp : rightJ K p = true) (sp : jsz p ≤ 1002) (rq : rightJ (K + 1) q = true) (sq : jsz q ≤ 1002) (rs : rightJ K s = true) (ss : jsz s ≤ 1002) : ConcR (s19 p q s) (f79 n 19 [p, q, s]) := by
  unfold jsz at sp sq ss
  have hB := BIG_eq
  have n2 : ∀ (k i j : Int) (x y : Tm), f111 n k i j [x, y] = some (Tm.mk k i j 0 [x, y]) := fun k i j x y => f111_ok (by omega) k i j _ (by simp)
  have n3 : ∀ (k i j : Int) (x y z : Tm), f111 n k i j [x, y, z] = some (Tm.mk k i j 0 [x, y, z]) := fun k i j x y z => f111_ok (by omega) k i j _ (by simp)
  have n4 : ∀ (k i j : Int) (x y z w : Tm), f111 n k i j [x, y, z, w] = some (Tm.mk k i j 0 [x, y, z, w]) := fun k i j x y z w => f111_ok (by omega) k i j _ (by simp)
  have hp := rightJ_Pr rp
  have jp := rightJ_RJ rp
  have gp := And.intro (Tm.size_pos p.u) (And.intro (Tm.size_pos p.v) (Tm.size_pos p.a))
  have tp : ∀ b, f53 n p b = some (p.i - 1, typedB p b) := fun b => f53_ok n jp b (by omega) (by omega)
  have lp := lev_range hp.i
  have hq := rightJ_Pr rq
  have jq := rightJ_RJ rq
  have gq := And.intro (Tm.size_pos q.u) (And.intro (Tm.size_pos q.v) (Tm.size_pos q.a))
  have tq : ∀ b, f53 n q b = some (q.i - 1, typedB q b) := fun b => f53_ok n jq b (by omega) (by omega)
  have lq := lev_range hq.i
  have hs := rightJ_Pr rs
  have js := rightJ_RJ rs
  have gs := And.intro (Tm.size_pos s.u) (And.intro (Tm.size_pos s.v) (Tm.size_pos s.a))
  have ts : ∀ b, f53 n s b = some (s.i - 1, typedB s b) := fun b => f53_ok n js b (by omega) (by omega)
  have ls := lev_range hs.i
  obtain ⟨t, A, B, j, b, hf, h0, h1⟩ := f114_ok hn rp (by unfold jsz; omega) rq (by unfold jsz; omega) rs (by unfold jsz; omega)
  simp only [f79, o79_0, c79_1, o79_1, ifB_eq, Int.reduceEq, decide_true, decide_false, if_true, if_false, reduceIte, Bool.false_eq_true, Option.bind_some, at0, at1, at2, at3, Tm.eta, tz_eq, zj_eq, jd_eta, f74_eq, f115_eq, f75_eq, n2, n3, n4, Bool.not_true, Bool.not_false, hf]
  cases b with
  | false => simp only [ifB_eq, Int.reduceEq, decide_true, decide_false, if_true, if_false, reduceIte, Bool.false_eq_true, Option.bind_some, at0, at1, at2, at3, Tm.eta, tz_eq, zj_eq, jd_eta, f74_eq, f115_eq, f75_eq, n2, n3, n4, Bool.not_true, Bool.not_false]; exact concNo (by simp [s19, h0 rfl])
  | true =>
    obtain ⟨e0, rfl, rfl, rfl, rfl⟩ := h1 rfl
    simp only [ifB_eq, Int.reduceEq, decide_true, decide_false, if_true, if_false, reduceIte, Bool.false_eq_true, Option.bind_some, at0, at1, at2, at3, Tm.eta, tz_eq, zj_eq, jd_eta, f74_eq, f115_eq, f75_eq, n2, n3, n4, Bool.not_true, Bool.not_false, mk_kids, mk_i]; exact concYes (by simp [s19, e0])
theorem d20_ok {K : Int} {n : Nat} (hn : 20000000 < n) (hK : 0 ≤ K) (hK1 : K ≤ 900) {p : Jd} {q : Jd} {s : Jd} (rp : rightJ K p = true) (sp : jsz p ≤ 1002) (rq : rightJ (K + 1) q = true) (sq : jsz q ≤ 1002) (rs : rightJ K s = true) (ss : jsz s ≤ 1002) : ConcR (s20 p q s) (f79 n 20 [p, q, s]) := by
  unfold jsz at sp sq ss
  have hB := BIG_eq
  have n2 : ∀ (k i j : Int) (x y : Tm), f111 n k i j [x, y] = some (Tm.mk k i j 0 [x, y]) := fun k i j x y => f111_ok (by omega) k i j _ (by simp)
  have n3 : ∀ (k i j : Int) (x y z : Tm), f111 n k i j [x, y, z] = some (Tm.mk k i j 0 [x, y, z]) := fun k i j x y z => f111_ok (by omega) k i j _ (by simp)
  have n4 : ∀ (k i j : Int) (x y z w : Tm), f111 n k i j [x, y, z, w] = some (Tm.mk k i j 0 [x, y, z, w]) := fun k i j x y z w => f111_ok (by omega) k i j _ (by simp)
  have hp := rightJ_Pr rp
  have jp := rightJ_RJ rp
  have gp := And.intro (Tm.size_pos p.u) (And.intro (Tm.size_pos p.v) (Tm.size_pos p.a))
  have tp : ∀ b, f53 n p b = some (p.i - 1, typedB p b) := fun b => f53_ok n jp b (by omega) (by omega)
  have lp := lev_range hp.i
  have hq := rightJ_Pr rq
  have jq := rightJ_RJ rq
  have gq := And.intro (Tm.size_pos q.u) (And.intro (Tm.size_pos q.v) (Tm.size_pos q.a))
  have tq : ∀ b, f53 n q b = some (q.i - 1, typedB q b) := fun b => f53_ok n jq b (by omega) (by omega)
  have lq := lev_range hq.i
  have hs := rightJ_Pr rs
  have js := rightJ_RJ rs
  have gs := And.intro (Tm.size_pos s.u) (And.intro (Tm.size_pos s.v) (Tm.size_pos s.a))
  have ts : ∀ b, f53 n s b = some (s.i - 1, typedB s b) := fun b => f53_ok n js b (by omega) (by omega)
  have ls := lev_range hs.i
  obtain ⟨t, A, B, j, b, hf, h0, h1⟩ := f114_ok hn rp (by unfold jsz; omega) rq (by unfold jsz; omega) rs (by unfold jsz; omega)
  simp only [f79, o79_0, c79_1, o79_1, ifB_eq, Int.reduceEq, decide_true, decide_false, if_true, if_false, reduceIte, Bool.false_eq_true, Option.bind_some, at0, at1, at2, at3, Tm.eta, tz_eq, zj_eq, jd_eta, f74_eq, f115_eq, f75_eq, n2, n3, n4, Bool.not_true, Bool.not_false, hf]
  cases b with
  | false => simp only [ifB_eq, Int.reduceEq, decide_true, decide_false, if_true, if_false, reduceIte, Bool.false_eq_true, Option.bind_some, at0, at1, at2, at3, Tm.eta, tz_eq, zj_eq, jd_eta, f74_eq, f115_eq, f75_eq, n2, n3, n4, Bool.not_true, Bool.not_false]; exact concNo (by simp [s20, h0 rfl])
  | true =>
    obtain ⟨e0, rfl, rfl, rfl, rfl⟩ := h1 rfl
    simp only [ifB_eq, Int.reduceEq, decide_true, decide_false, if_true, if_false, reduceIte, Bool.false_eq_true, Option.bind_some, at0, at1, at2, at3, Tm.eta, tz_eq, zj_eq, jd_eta, f74_eq, f115_eq, f75_eq, n2, n3, n4, Bool.not_true, Bool.not_false, mk_kids, mk_i]; exact concYes (by simp [s20, e0])
theorem d21_ok {K : Int} {n : Nat} (hn : 20000000 < n) (hK : 0 ≤ K) (hK1 : K ≤ 900) {p : Jd} (rp : rightJ K p = true) (sp : jsz p ≤ 1002) : ConcR (s21 p) (f79 n 21 [p]) := by
  unfold jsz at sp
  have hB := BIG_eq
  have n2 : ∀ (k i j : Int) (x y : Tm), f111 n k i j [x, y] = some (Tm.mk k i j 0 [x, y]) := fun k i j x y => f111_ok (by omega) k i j _ (by simp)
  have n3 : ∀ (k i j : Int) (x y z : Tm), f111 n k i j [x, y, z] = some (Tm.mk k i j 0 [x, y, z]) := fun k i j x y z => f111_ok (by omega) k i j _ (by simp)
  have n4 : ∀ (k i j : Int) (x y z w : Tm), f111 n k i j [x, y, z, w] = some (Tm.mk k i j 0 [x, y, z, w]) := fun k i j x y z w => f111_ok (by omega) k i j _ (by simp)
  have hp := rightJ_Pr rp
  have jp := rightJ_RJ rp
  have gp := And.intro (Tm.size_pos p.u) (And.intro (Tm.size_pos p.v) (Tm.size_pos p.a))
  have tp : ∀ b, f53 n p b = some (p.i - 1, typedB p b) := fun b => f53_ok n jp b (by omega) (by omega)
  have lp := lev_range hp.i
  obtain ⟨f, b, hf, hS, fo⟩ := f112_ok hp 3 (.inl rfl)
  simp only [f79, o79_0, c79_1, o79_1, ifB_eq, Int.reduceEq, decide_true, decide_false, if_true, if_false, reduceIte, Bool.false_eq_true, Option.bind_some, at0, at1, at2, at3, Tm.eta, tz_eq, zj_eq, jd_eta, f74_eq, f115_eq, f75_eq, n2, n3, n4, Bool.not_true, Bool.not_false, hf]
  cases b with
  | false => simp only [ifB_eq, Int.reduceEq, decide_true, decide_false, if_true, if_false, reduceIte, Bool.false_eq_true, Option.bind_some, at0, at1, at2, at3, Tm.eta, tz_eq, zj_eq, jd_eta, f74_eq, f115_eq, f75_eq, n2, n3, n4, Bool.not_true, Bool.not_false]; exact concNo (by simp [s21, hS])
  | true =>
    obtain ⟨f1, f2, f3, f4, f5⟩ := fo rfl
    have u1 := liftZ_pf f1.a (f := 0) (by omega) (by omega) (by omega)
    have u2 := liftZ_pf f1.b (f := 1) (by omega) (by omega) (by omega)
    have u3 := liftZ_pf hp.u (f := 0) (by omega) (by omega) (by omega)
    simp only [ifB_eq, Int.reduceEq, decide_true, decide_false, if_true, if_false, reduceIte, Bool.false_eq_true, Option.bind_some, at0, at1, at2, at3, Tm.eta, tz_eq, zj_eq, jd_eta, f74_eq, f115_eq, f75_eq, n2, n3, n4, Bool.not_true, Bool.not_false, f110_ok n f.a 1 0 (by omega) (by omega) (by omega) (by omega), f110_ok n f.b 1 1 (by omega) (by omega) (by omega) (by omega), f110_ok n p.u 1 0 (by omega) (by omega) (by omega) (by omega), u1, u2, u3]
    exact concYes (by simp only [s21, hS, if_true]; rw [f3, f4])
theorem d22_ok {K : Int} {n : Nat} (hn : 20000000 < n) (hK : 0 ≤ K) (hK1 : K ≤ 900) {p : Jd} (rp : rightJ K p = true) (sp : jsz p ≤ 1002) : ConcR (s22 p) (f79 n 22 [p]) := by
  unfold jsz at sp
  have hB := BIG_eq
  have n2 : ∀ (k i j : Int) (x y : Tm), f111 n k i j [x, y] = some (Tm.mk k i j 0 [x, y]) := fun k i j x y => f111_ok (by omega) k i j _ (by simp)
  have n3 : ∀ (k i j : Int) (x y z : Tm), f111 n k i j [x, y, z] = some (Tm.mk k i j 0 [x, y, z]) := fun k i j x y z => f111_ok (by omega) k i j _ (by simp)
  have n4 : ∀ (k i j : Int) (x y z w : Tm), f111 n k i j [x, y, z, w] = some (Tm.mk k i j 0 [x, y, z, w]) := fun k i j x y z w => f111_ok (by omega) k i j _ (by simp)
  have hp := rightJ_Pr rp
  have jp := rightJ_RJ rp
  have gp := And.intro (Tm.size_pos p.u) (And.intro (Tm.size_pos p.v) (Tm.size_pos p.a))
  have tp : ∀ b, f53 n p b = some (p.i - 1, typedB p b) := fun b => f53_ok n jp b (by omega) (by omega)
  have lp := lev_range hp.i
  obtain ⟨f, b, hf, hS, fo⟩ := f112_ok hp 6 (.inr rfl)
  simp only [f79, o79_0, c79_1, o79_1, ifB_eq, Int.reduceEq, decide_true, decide_false, if_true, if_false, reduceIte, Bool.false_eq_true, Option.bind_some, at0, at1, at2, at3, Tm.eta, tz_eq, zj_eq, jd_eta, f74_eq, f115_eq, f75_eq, n2, n3, n4, Bool.not_true, Bool.not_false, hf]
  cases b with
  | false => simp only [ifB_eq, Int.reduceEq, decide_true, decide_false, if_true, if_false, reduceIte, Bool.false_eq_true, Option.bind_some, at0, at1, at2, at3, Tm.eta, tz_eq, zj_eq, jd_eta, f74_eq, f115_eq, f75_eq, n2, n3, n4, Bool.not_true, Bool.not_false]; exact concNo (by simp [s22, hS])
  | true =>
    obtain ⟨f1, f2, f3, f4, f5⟩ := fo rfl
    simp only [ifB_eq, Int.reduceEq, decide_true, decide_false, if_true, if_false, reduceIte, Bool.false_eq_true, Option.bind_some, at0, at1, at2, at3, Tm.eta, tz_eq, zj_eq, jd_eta, f74_eq, f115_eq, f75_eq, n2, n3, n4, Bool.not_true, Bool.not_false]
    exact concYes (by simp only [s22, hS, if_true]; rw [f3, f4])
theorem d23_ok {K : Int} {n : Nat} (hn : 20000000 < n) (hK : 0 ≤ K) (hK1 : K ≤ 900) {p : Jd} {q : Jd} (rp : rightJ K p = true) (sp : jsz p ≤ 1002) (rq : rightJ (K + 1) q = true) (sq : jsz q ≤ 1002) (ep : p.eq = true) : ConcR (s23 p q) (f80 n 23 [p, q]) := by
  unfold jsz at sp sq
  have hB := BIG_eq
  have n2 : ∀ (k i j : Int) (x y : Tm), f111 n k i j [x, y] = some (Tm.mk k i j 0 [x, y]) := fun k i j x y => f111_ok (by omega) k i j _ (by simp)
  have n3 : ∀ (k i j : Int) (x y z : Tm), f111 n k i j [x, y, z] = some (Tm.mk k i j 0 [x, y, z]) := fun k i j x y z => f111_ok (by omega) k i j _ (by simp)
  have n4 : ∀ (k i j : Int) (x y z w : Tm), f111 n k i j [x, y, z, w] = some (Tm.mk k i j 0 [x, y, z, w]) := fun k i j x y z w => f111_ok (by omega) k i j _ (by simp)
  have hp := rightJ_Pr rp
  have jp := rightJ_RJ rp
  have gp := And.intro (Tm.size_pos p.u) (And.intro (Tm.size_pos p.v) (Tm.size_pos p.a))
  have tp : ∀ b, f53 n p b = some (p.i - 1, typedB p b) := fun b => f53_ok n jp b (by omega) (by omega)
  have lp := lev_range hp.i
  have hq := rightJ_Pr rq
  have jq := rightJ_RJ rq
  have gq := And.intro (Tm.size_pos q.u) (And.intro (Tm.size_pos q.v) (Tm.size_pos q.a))
  have tq : ∀ b, f53 n q b = some (q.i - 1, typedB q b) := fun b => f53_ok n jq b (by omega) (by omega)
  have lq := lev_range hq.i
  cases hq2 : q.eq with
  | true => simp only [f80, o80_0, c80_1, o80_1, c80_2, o80_2, c80_3, o80_3, c80_4, o80_4, ifB_eq, Int.reduceEq, decide_true, decide_false, if_true, if_false, reduceIte, Bool.false_eq_true, Option.bind_some, at0, at1, at2, at3, Tm.eta, tz_eq, zj_eq, jd_eta, f74_eq, f115_eq, f75_eq, n2, n3, n4, Bool.not_true, Bool.not_false, hq2]; exact concNo (by simp [s23, hq2])
  | false => simp only [f80, o80_0, c80_1, o80_1, c80_2, o80_2, c80_3, o80_3, c80_4, o80_4, ifB_eq, Int.reduceEq, decide_true, decide_false, if_true, if_false, reduceIte, Bool.false_eq_true, Option.bind_some, at0, at1, at2, at3, Tm.eta, tz_eq, zj_eq, jd_eta, f74_eq, f115_eq, f75_eq, n2, n3, n4, Bool.not_true, Bool.not_false, hq2, f113_ok n q.u p.u (by omega) (by omega) (by omega), f113_ok n q.u p.v (by omega) (by omega) (by omega), f113_ok n q.a p.u (by omega) (by omega) (by omega)]; exact concYes (by simp [s23, hq2, ep])
theorem d24_ok {K : Int} {n : Nat} (hn : 20000000 < n) (hK : 0 ≤ K) (hK1 : K ≤ 900) {p : Jd} {q : Jd} (rp : rightJ K p = true) (sp : jsz p ≤ 1002) (rq : rightJ K q = true) (sq : jsz q ≤ 1002) : ConcR (s24 p q) (f80 n 24 [p, q]) := by
  unfold jsz at sp sq
  have hB := BIG_eq
  have n2 : ∀ (k i j : Int) (x y : Tm), f111 n k i j [x, y] = some (Tm.mk k i j 0 [x, y]) := fun k i j x y => f111_ok (by omega) k i j _ (by simp)
  have n3 : ∀ (k i j : Int) (x y z : Tm), f111 n k i j [x, y, z] = some (Tm.mk k i j 0 [x, y, z]) := fun k i j x y z => f111_ok (by omega) k i j _ (by simp)
  have n4 : ∀ (k i j : Int) (x y z w : Tm), f111 n k i j [x, y, z, w] = some (Tm.mk k i j 0 [x, y, z, w]) := fun k i j x y z w => f111_ok (by omega) k i j _ (by simp)
  have hp := rightJ_Pr rp
  have jp := rightJ_RJ rp
  have gp := And.intro (Tm.size_pos p.u) (And.intro (Tm.size_pos p.v) (Tm.size_pos p.a))
  have tp : ∀ b, f53 n p b = some (p.i - 1, typedB p b) := fun b => f53_ok n jp b (by omega) (by omega)
  have lp := lev_range hp.i
  have hq := rightJ_Pr rq
  have jq := rightJ_RJ rq
  have gq := And.intro (Tm.size_pos q.u) (And.intro (Tm.size_pos q.v) (Tm.size_pos q.a))
  have tq : ∀ b, f53 n q b = some (q.i - 1, typedB q b) := fun b => f53_ok n jq b (by omega) (by omega)
  have lq := lev_range hq.i
  cases hp2 : p.eq with
  | true => simp only [f80, o80_0, c80_1, o80_1, c80_2, o80_2, c80_3, o80_3, c80_4, o80_4, ifB_eq, Int.reduceEq, decide_true, decide_false, if_true, if_false, reduceIte, Bool.false_eq_true, Option.bind_some, at0, at1, at2, at3, Tm.eta, tz_eq, zj_eq, jd_eta, f74_eq, f115_eq, f75_eq, n2, n3, n4, Bool.not_true, Bool.not_false, hp2]; exact concNo (by simp [s24, hp2])
  | false =>
  cases hq2 : q.eq with
  | true => simp only [f80, o80_0, c80_1, o80_1, c80_2, o80_2, c80_3, o80_3, c80_4, o80_4, ifB_eq, Int.reduceEq, decide_true, decide_false, if_true, if_false, reduceIte, Bool.false_eq_true, Option.bind_some, at0, at1, at2, at3, Tm.eta, tz_eq, zj_eq, jd_eta, f74_eq, f115_eq, f75_eq, n2, n3, n4, Bool.not_true, Bool.not_false, hp2, hq2]; exact concNo (by simp [s24, hasB, hq2])
  | false =>
  by_cases h1 : p.a.kind = 10
  case neg => simp only [f80, o80_0, c80_1, o80_1, c80_2, o80_2, c80_3, o80_3, c80_4, o80_4, ifB_eq, Int.reduceEq, decide_true, decide_false, if_true, if_false, reduceIte, Bool.false_eq_true, Option.bind_some, at0, at1, at2, at3, Tm.eta, tz_eq, zj_eq, jd_eta, f74_eq, f115_eq, f75_eq, n2, n3, n4, Bool.not_true, Bool.not_false, hp2, hq2, h1]; exact concNo (by simp [s24, h1])
  by_cases h2 : p.i = p.a.i
  case neg => simp only [f80, o80_0, c80_1, o80_1, c80_2, o80_2, c80_3, o80_3, c80_4, o80_4, ifB_eq, Int.reduceEq, decide_true, decide_false, if_true, if_false, reduceIte, Bool.false_eq_true, Option.bind_some, at0, at1, at2, at3, Tm.eta, tz_eq, zj_eq, jd_eta, f74_eq, f115_eq, f75_eq, n2, n3, n4, Bool.not_true, Bool.not_false, hp2, hq2, h1, h2]; exact concNo (by simp [s24, Ne.symm h2])
  by_cases hi : p.i = q.i
  case neg => simp only [f80, o80_0, c80_1, o80_1, c80_2, o80_2, c80_3, o80_3, c80_4, o80_4, ifB_eq, Int.reduceEq, decide_true, decide_false, if_true, if_false, reduceIte, Bool.false_eq_true, Option.bind_some, at0, at1, at2, at3, Tm.eta, tz_eq, zj_eq, jd_eta, f74_eq, f115_eq, f75_eq, n2, n3, n4, Bool.not_true, Bool.not_false, hp2, hq2, h1, ← h2, hi]; exact concNo (by simp [s24, hasB, Ne.symm hi])
  simp only [f80, o80_0, c80_1, o80_1, c80_2, o80_2, c80_3, o80_3, c80_4, o80_4, ifB_eq, Int.reduceEq, decide_true, decide_false, if_true, if_false, reduceIte, Bool.false_eq_true, Option.bind_some, at0, at1, at2, at3, Tm.eta, tz_eq, zj_eq, jd_eta, f74_eq, f115_eq, f75_eq, n2, n3, n4, Bool.not_true, Bool.not_false, hp2, hq2, h1, ← h2, hi, f88_ok n p.a q.a (by omega) (by omega)]
  by_cases hs : p.a = q.a
  case neg =>
    have e1 : p.a.same q.a = false := by cases hx : p.a.same q.a with
      | true => exact (hs ((Tm.same_iff _ _).1 hx)).elim
      | false => rfl
    have e2 : q.a.same p.a = false := by cases hx : q.a.same p.a with
      | true => exact (hs ((Tm.same_iff _ _).1 hx).symm).elim
      | false => rfl
    simp only [ifB_eq, Int.reduceEq, decide_true, decide_false, if_true, if_false, reduceIte, Bool.false_eq_true, Option.bind_some, at0, at1, at2, at3, Tm.eta, tz_eq, zj_eq, jd_eta, f74_eq, f115_eq, f75_eq, n2, n3, n4, Bool.not_true, Bool.not_false, e1]
    exact concNo (by simp [s24, hasB, e2])
  have e1 := (Tm.same_iff p.a q.a).2 hs
  have e2 := (Tm.same_iff q.a p.a).2 hs.symm
  simp only [ifB_eq, Int.reduceEq, decide_true, decide_false, if_true, if_false, reduceIte, Bool.false_eq_true, Option.bind_some, at0, at1, at2, at3, Tm.eta, tz_eq, zj_eq, jd_eta, f74_eq, f115_eq, f75_eq, n2, n3, n4, Bool.not_true, Bool.not_false, e1]
  exact concYes (by simp [s24, hasB, e2, hi, hp2, hq2, h1, ← h2])
theorem d25_ok {K : Int} {n : Nat} (hn : 20000000 < n) (hK : 0 ≤ K) (hK1 : K ≤ 900) {p : Jd} {q : Jd} (rp : rightJ K p = true) (sp : jsz p ≤ 1002) (rq : rightJ (K + 1) q = true) (sq : jsz q ≤ 1002) (ep : typedB p true = true) : ConcR (s25 3 p q) (f78 n 25 [p, q]) := by
  unfold jsz at sp sq
  have hB := BIG_eq
  have n2 : ∀ (k i j : Int) (x y : Tm), f111 n k i j [x, y] = some (Tm.mk k i j 0 [x, y]) := fun k i j x y => f111_ok (by omega) k i j _ (by simp)
  have n3 : ∀ (k i j : Int) (x y z : Tm), f111 n k i j [x, y, z] = some (Tm.mk k i j 0 [x, y, z]) := fun k i j x y z => f111_ok (by omega) k i j _ (by simp)
  have n4 : ∀ (k i j : Int) (x y z w : Tm), f111 n k i j [x, y, z, w] = some (Tm.mk k i j 0 [x, y, z, w]) := fun k i j x y z w => f111_ok (by omega) k i j _ (by simp)
  have hp := rightJ_Pr rp
  have jp := rightJ_RJ rp
  have gp := And.intro (Tm.size_pos p.u) (And.intro (Tm.size_pos p.v) (Tm.size_pos p.a))
  have tp : ∀ b, f53 n p b = some (p.i - 1, typedB p b) := fun b => f53_ok n jp b (by omega) (by omega)
  have lp := lev_range hp.i
  have hq := rightJ_Pr rq
  have jq := rightJ_RJ rq
  have gq := And.intro (Tm.size_pos q.u) (And.intro (Tm.size_pos q.v) (Tm.size_pos q.a))
  have tq : ∀ b, f53 n q b = some (q.i - 1, typedB q b) := fun b => f53_ok n jq b (by omega) (by omega)
  have lq := lev_range hq.i
  obtain ⟨a1, a2, a3⟩ := typedB_of ep
  have e1 : p.i - 1 = p.a.i := by omega
  cases hq2 : typedB q true with
  | false => simp only [f78, o78_0, c78_1, o78_1, c78_2, o78_2, ifB_eq, Int.reduceEq, decide_true, decide_false, if_true, if_false, reduceIte, Bool.false_eq_true, Option.bind_some, at0, at1, at2, at3, Tm.eta, tz_eq, zj_eq, jd_eta, f74_eq, f115_eq, f75_eq, n2, n3, n4, Bool.not_true, Bool.not_false, tp, tq, hq2]; exact concNo (by simp [s25, hq2])
  | true =>
  obtain ⟨b1, b2, b3⟩ := typedB_of hq2
  have e2 : q.i - 1 = q.a.i := by omega
  simp only [f78, o78_0, c78_1, o78_1, c78_2, o78_2, ifB_eq, Int.reduceEq, decide_true, decide_false, if_true, if_false, reduceIte, Bool.false_eq_true, Option.bind_some, at0, at1, at2, at3, Tm.eta, tz_eq, zj_eq, jd_eta, f74_eq, f115_eq, f75_eq, n2, n3, n4, Bool.not_true, Bool.not_false, tp, tq, hq2, e1, e2]
  rw [ckI_eq (by omega)]
  exact concYes (by simp [s25, hq2, ep])
theorem d26_ok {K : Int} {n : Nat} (hn : 20000000 < n) (hK : 0 ≤ K) (hK1 : K ≤ 900) {p : Jd} {q : Jd} (rp : rightJ K p = true) (sp : jsz p ≤ 1002) (rq : rightJ (K + 1) q = true) (sq : jsz q ≤ 1002) (ep : typedB p true = true) : ConcR (s25 6 p q) (f78 n 26 [p, q]) := by
  unfold jsz at sp sq
  have hB := BIG_eq
  have n2 : ∀ (k i j : Int) (x y : Tm), f111 n k i j [x, y] = some (Tm.mk k i j 0 [x, y]) := fun k i j x y => f111_ok (by omega) k i j _ (by simp)
  have n3 : ∀ (k i j : Int) (x y z : Tm), f111 n k i j [x, y, z] = some (Tm.mk k i j 0 [x, y, z]) := fun k i j x y z => f111_ok (by omega) k i j _ (by simp)
  have n4 : ∀ (k i j : Int) (x y z w : Tm), f111 n k i j [x, y, z, w] = some (Tm.mk k i j 0 [x, y, z, w]) := fun k i j x y z w => f111_ok (by omega) k i j _ (by simp)
  have hp := rightJ_Pr rp
  have jp := rightJ_RJ rp
  have gp := And.intro (Tm.size_pos p.u) (And.intro (Tm.size_pos p.v) (Tm.size_pos p.a))
  have tp : ∀ b, f53 n p b = some (p.i - 1, typedB p b) := fun b => f53_ok n jp b (by omega) (by omega)
  have lp := lev_range hp.i
  have hq := rightJ_Pr rq
  have jq := rightJ_RJ rq
  have gq := And.intro (Tm.size_pos q.u) (And.intro (Tm.size_pos q.v) (Tm.size_pos q.a))
  have tq : ∀ b, f53 n q b = some (q.i - 1, typedB q b) := fun b => f53_ok n jq b (by omega) (by omega)
  have lq := lev_range hq.i
  obtain ⟨a1, a2, a3⟩ := typedB_of ep
  have e1 : p.i - 1 = p.a.i := by omega
  cases hq2 : typedB q true with
  | false => simp only [f78, o78_0, c78_1, o78_1, c78_2, o78_2, ifB_eq, Int.reduceEq, decide_true, decide_false, if_true, if_false, reduceIte, Bool.false_eq_true, Option.bind_some, at0, at1, at2, at3, Tm.eta, tz_eq, zj_eq, jd_eta, f74_eq, f115_eq, f75_eq, n2, n3, n4, Bool.not_true, Bool.not_false, tp, tq, hq2]; exact concNo (by simp [s25, hq2])
  | true =>
  obtain ⟨b1, b2, b3⟩ := typedB_of hq2
  have e2 : q.i - 1 = q.a.i := by omega
  simp only [f78, o78_0, c78_1, o78_1, c78_2, o78_2, ifB_eq, Int.reduceEq, decide_true, decide_false, if_true, if_false, reduceIte, Bool.false_eq_true, Option.bind_some, at0, at1, at2, at3, Tm.eta, tz_eq, zj_eq, jd_eta, f74_eq, f115_eq, f75_eq, n2, n3, n4, Bool.not_true, Bool.not_false, tp, tq, hq2, e1, e2]
  rw [ckI_eq (by omega)]
  exact concYes (by simp [s25, hq2, ep])
theorem d27_ok {K : Int} {n : Nat} (hn : 20000000 < n) (hK : 0 ≤ K) (hK1 : K ≤ 900) {p : Jd} {q : Jd} {s : Jd} (rp : rightJ K p = true) (sp : jsz p ≤ 1002) (rq : rightJ (K + 1) q = true) (sq : jsz q ≤ 1002) (rs : rightJ (K + 1) s = true) (ss : jsz s ≤ 1002) (ep : typedB p true = true) : ConcR (s27 p q s) (f78 n 27 [p, q, s]) := by
  unfold jsz at sp sq ss
  have hB := BIG_eq
  have n2 : ∀ (k i j : Int) (x y : Tm), f111 n k i j [x, y] = some (Tm.mk k i j 0 [x, y]) := fun k i j x y => f111_ok (by omega) k i j _ (by simp)
  have n3 : ∀ (k i j : Int) (x y z : Tm), f111 n k i j [x, y, z] = some (Tm.mk k i j 0 [x, y, z]) := fun k i j x y z => f111_ok (by omega) k i j _ (by simp)
  have n4 : ∀ (k i j : Int) (x y z w : Tm), f111 n k i j [x, y, z, w] = some (Tm.mk k i j 0 [x, y, z, w]) := fun k i j x y z w => f111_ok (by omega) k i j _ (by simp)
  have hp := rightJ_Pr rp
  have jp := rightJ_RJ rp
  have gp := And.intro (Tm.size_pos p.u) (And.intro (Tm.size_pos p.v) (Tm.size_pos p.a))
  have tp : ∀ b, f53 n p b = some (p.i - 1, typedB p b) := fun b => f53_ok n jp b (by omega) (by omega)
  have lp := lev_range hp.i
  have hq := rightJ_Pr rq
  have jq := rightJ_RJ rq
  have gq := And.intro (Tm.size_pos q.u) (And.intro (Tm.size_pos q.v) (Tm.size_pos q.a))
  have tq : ∀ b, f53 n q b = some (q.i - 1, typedB q b) := fun b => f53_ok n jq b (by omega) (by omega)
  have lq := lev_range hq.i
  have hs := rightJ_Pr rs
  have js := rightJ_RJ rs
  have gs := And.intro (Tm.size_pos s.u) (And.intro (Tm.size_pos s.v) (Tm.size_pos s.a))
  have ts : ∀ b, f53 n s b = some (s.i - 1, typedB s b) := fun b => f53_ok n js b (by omega) (by omega)
  have ls := lev_range hs.i
  obtain ⟨a1, a2, a3⟩ := typedB_of ep
  have e1 : p.i - 1 = p.a.i := by omega
  cases hq2 : typedB q true with
  | false => simp only [f78, o78_0, c78_1, o78_1, c78_2, o78_2, ifB_eq, Int.reduceEq, decide_true, decide_false, if_true, if_false, reduceIte, Bool.false_eq_true, Option.bind_some, at0, at1, at2, at3, Tm.eta, tz_eq, zj_eq, jd_eta, f74_eq, f115_eq, f75_eq, n2, n3, n4, Bool.not_true, Bool.not_false, tp, tq, hq2]; exact concNo (by simp [s27, hq2])
  | true =>
  obtain ⟨b1, b2, b3⟩ := typedB_of hq2
  have e2 : q.i - 1 = q.a.i := by omega
  cases hs : s.eq with
  | false => simp only [f78, o78_0, c78_1, o78_1, c78_2, o78_2, ifB_eq, Int.reduceEq, decide_true, decide_false, if_true, if_false, reduceIte, Bool.false_eq_true, Option.bind_some, at0, at1, at2, at3, Tm.eta, tz_eq, zj_eq, jd_eta, f74_eq, f115_eq, f75_eq, n2, n3, n4, Bool.not_true, Bool.not_false, tp, tq, hq2, hs]; exact concNo (by simp [s27, hasB, hs])
  | true =>
  by_cases hi : s.i = q.a.i
  case neg => simp only [f78, o78_0, c78_1, o78_1, c78_2, o78_2, ifB_eq, Int.reduceEq, decide_true, decide_false, if_true, if_false, reduceIte, Bool.false_eq_true, Option.bind_some, at0, at1, at2, at3, Tm.eta, tz_eq, zj_eq, jd_eta, f74_eq, f115_eq, f75_eq, n2, n3, n4, Bool.not_true, Bool.not_false, tp, tq, hq2, hs, e2, hi]; exact concNo (by simp [s27, hasB, hi])
  simp only [f78, o78_0, c78_1, o78_1, c78_2, o78_2, ifB_eq, Int.reduceEq, decide_true, decide_false, if_true, if_false, reduceIte, Bool.false_eq_true, Option.bind_some, at0, at1, at2, at3, Tm.eta, tz_eq, zj_eq, jd_eta, f74_eq, f115_eq, f75_eq, n2, n3, n4, Bool.not_true, Bool.not_false, tp, tq, hq2, hs, e1, e2, hi, f88_ok n s.a q.u (by omega) (by omega)]
  cases hm : s.a.same q.u with
  | false => simp only [ifB_eq, Int.reduceEq, decide_true, decide_false, if_true, if_false, reduceIte, Bool.false_eq_true, Option.bind_some, at0, at1, at2, at3, Tm.eta, tz_eq, zj_eq, jd_eta, f74_eq, f115_eq, f75_eq, n2, n3, n4, Bool.not_true, Bool.not_false]; exact concNo (by simp [s27, hasB, hm])
  | true => simp only [ifB_eq, Int.reduceEq, decide_true, decide_false, if_true, if_false, reduceIte, Bool.false_eq_true, Option.bind_some, at0, at1, at2, at3, Tm.eta, tz_eq, zj_eq, jd_eta, f74_eq, f115_eq, f75_eq, n2, n3, n4, Bool.not_true, Bool.not_false]; exact concYes (by simp [s27, hasB, hm, hi, hs, hq2, ep])
theorem d28_ok {K : Int} {n : Nat} (hn : 20000000 < n) (hK : 0 ≤ K) (hK1 : K ≤ 900) {p : Jd} {q : Jd} {s : Jd} {t : Jd} (rp : rightJ K p = true) (sp : jsz p ≤ 1002) (rq : rightJ (K + 1) q = true) (sq : jsz q ≤ 1002) (rs : rightJ K s = true) (ss : jsz s ≤ 1002) (rt : rightJ K t = true) (st : jsz t ≤ 1002) (ep : typedB p true = true) : ConcR (s28 p q s t) (f78 n 28 [p, q, s, t]) := by
  unfold jsz at sp sq ss st
  have hB := BIG_eq
  have n2 : ∀ (k i j : Int) (x y : Tm), f111 n k i j [x, y] = some (Tm.mk k i j 0 [x, y]) := fun k i j x y => f111_ok (by omega) k i j _ (by simp)
  have n3 : ∀ (k i j : Int) (x y z : Tm), f111 n k i j [x, y, z] = some (Tm.mk k i j 0 [x, y, z]) := fun k i j x y z => f111_ok (by omega) k i j _ (by simp)
  have n4 : ∀ (k i j : Int) (x y z w : Tm), f111 n k i j [x, y, z, w] = some (Tm.mk k i j 0 [x, y, z, w]) := fun k i j x y z w => f111_ok (by omega) k i j _ (by simp)
  have hp := rightJ_Pr rp
  have jp := rightJ_RJ rp
  have gp := And.intro (Tm.size_pos p.u) (And.intro (Tm.size_pos p.v) (Tm.size_pos p.a))
  have tp : ∀ b, f53 n p b = some (p.i - 1, typedB p b) := fun b => f53_ok n jp b (by omega) (by omega)
  have lp := lev_range hp.i
  have hq := rightJ_Pr rq
  have jq := rightJ_RJ rq
  have gq := And.intro (Tm.size_pos q.u) (And.intro (Tm.size_pos q.v) (Tm.size_pos q.a))
  have tq : ∀ b, f53 n q b = some (q.i - 1, typedB q b) := fun b => f53_ok n jq b (by omega) (by omega)
  have lq := lev_range hq.i
  have hs := rightJ_Pr rs
  have js := rightJ_RJ rs
  have gs := And.intro (Tm.size_pos s.u) (And.intro (Tm.size_pos s.v) (Tm.size_pos s.a))
  have ts : ∀ b, f53 n s b = some (s.i - 1, typedB s b) := fun b => f53_ok n js b (by omega) (by omega)
  have ls := lev_range hs.i
  have ht := rightJ_Pr rt
  have jt := rightJ_RJ rt
  have gt := And.intro (Tm.size_pos t.u) (And.intro (Tm.size_pos t.v) (Tm.size_pos t.a))
  have tt : ∀ b, f53 n t b = some (t.i - 1, typedB t b) := fun b => f53_ok n jt b (by omega) (by omega)
  have lt := lev_range ht.i
  obtain ⟨a1, a2, a3⟩ := typedB_of ep
  have e1 : p.i - 1 = p.a.i := by omega
  cases hq2 : typedB q true with
  | false => simp only [f78, o78_0, c78_1, o78_1, c78_2, o78_2, ifB_eq, Int.reduceEq, decide_true, decide_false, if_true, if_false, reduceIte, Bool.false_eq_true, Option.bind_some, at0, at1, at2, at3, Tm.eta, tz_eq, zj_eq, jd_eta, f74_eq, f115_eq, f75_eq, n2, n3, n4, Bool.not_true, Bool.not_false, tp, tq, hq2]; exact concNo (by simp [s28, hq2])
  | true =>
  obtain ⟨b1, b2, b3⟩ := typedB_of hq2
  have e2 : q.i - 1 = q.a.i := by omega
  cases hs : s.eq with
  | true => simp only [f78, o78_0, c78_1, o78_1, c78_2, o78_2, ifB_eq, Int.reduceEq, decide_true, decide_false, if_true, if_false, reduceIte, Bool.false_eq_true, Option.bind_some, at0, at1, at2, at3, Tm.eta, tz_eq, zj_eq, jd_eta, f74_eq, f115_eq, f75_eq, n2, n3, n4, Bool.not_true, Bool.not_false, tp, tq, hq2, hs]; exact concNo (by simp [s28, hasB, hs])
  | false =>
  cases ht2 : t.eq with
  | true => simp only [f78, o78_0, c78_1, o78_1, c78_2, o78_2, ifB_eq, Int.reduceEq, decide_true, decide_false, if_true, if_false, reduceIte, Bool.false_eq_true, Option.bind_some, at0, at1, at2, at3, Tm.eta, tz_eq, zj_eq, jd_eta, f74_eq, f115_eq, f75_eq, n2, n3, n4, Bool.not_true, Bool.not_false, tp, tq, hq2, hs, ht2]; exact concNo (by simp [s28, hasB, ht2])
  | false =>
  by_cases hi : s.i = p.a.i
  case neg => simp only [f78, o78_0, c78_1, o78_1, c78_2, o78_2, ifB_eq, Int.reduceEq, decide_true, decide_false, if_true, if_false, reduceIte, Bool.false_eq_true, Option.bind_some, at0, at1, at2, at3, Tm.eta, tz_eq, zj_eq, jd_eta, f74_eq, f115_eq, f75_eq, n2, n3, n4, Bool.not_true, Bool.not_false, tp, tq, hq2, hs, ht2, e1, hi]; exact concNo (by simp [s28, hasB, hi])
  by_cases hi2 : t.i = q.a.i
  case neg => simp only [f78, o78_0, c78_1, o78_1, c78_2, o78_2, ifB_eq, Int.reduceEq, decide_true, decide_false, if_true, if_false, reduceIte, Bool.false_eq_true, Option.bind_some, at0, at1, at2, at3, Tm.eta, tz_eq, zj_eq, jd_eta, f74_eq, f115_eq, f75_eq, n2, n3, n4, Bool.not_true, Bool.not_false, tp, tq, hq2, hs, ht2, e1, e2, hi, hi2]; exact concNo (by simp [s28, hasB, hi2])
  simp only [f78, o78_0, c78_1, o78_1, c78_2, o78_2, ifB_eq, Int.reduceEq, decide_true, decide_false, if_true, if_false, reduceIte, Bool.false_eq_true, Option.bind_some, at0, at1, at2, at3, Tm.eta, tz_eq, zj_eq, jd_eta, f74_eq, f115_eq, f75_eq, n2, n3, n4, Bool.not_true, Bool.not_false, tp, tq, hq2, hs, ht2, e1, e2, hi, hi2, f88_ok n s.a p.u (by omega) (by omega), f113_ok n q.u s.u (by omega) (by omega) (by omega), f88_ok n t.a (q.u.putZ s.u) (by omega) (by omega)]
  cases hm : s.a.same p.u with
  | false => simp only [ifB_eq, Int.reduceEq, decide_true, decide_false, if_true, if_false, reduceIte, Bool.false_eq_true, Option.bind_some, at0, at1, at2, at3, Tm.eta, tz_eq, zj_eq, jd_eta, f74_eq, f115_eq, f75_eq, n2, n3, n4, Bool.not_true, Bool.not_false]; exact concNo (by simp [s28, hasB, hm])
  | true =>
  cases hm2 : t.a.same (q.u.putZ s.u) with
  | false => simp only [ifB_eq, Int.reduceEq, decide_true, decide_false, if_true, if_false, reduceIte, Bool.false_eq_true, Option.bind_some, at0, at1, at2, at3, Tm.eta, tz_eq, zj_eq, jd_eta, f74_eq, f115_eq, f75_eq, n2, n3, n4, Bool.not_true, Bool.not_false]; exact concNo (by simp [s28, hasB, hm2])
  | true => simp only [ifB_eq, Int.reduceEq, decide_true, decide_false, if_true, if_false, reduceIte, Bool.false_eq_true, Option.bind_some, at0, at1, at2, at3, Tm.eta, tz_eq, zj_eq, jd_eta, f74_eq, f115_eq, f75_eq, n2, n3, n4, Bool.not_true, Bool.not_false]; exact concYes (by simp [s28, hasB, hm, hm2, hi, hi2, hs, ht2, hq2, ep])
end Go.Proofs.YtcaahmielncmpaaGreat
