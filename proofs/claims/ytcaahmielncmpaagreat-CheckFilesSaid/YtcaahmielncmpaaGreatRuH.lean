/-
  Plain facts on what the functions compute.
-/
import Derived.Test.YtcaahmielncmpaaGreatRuG
set_option linter.unusedSimpArgs false
set_option linter.unusedVariables false
namespace Go.Proofs.YtcaahmielncmpaaGreat
open Go
set_option maxRecDepth 20000

theorem a13_ok {K : Int} {n : Nat} {p : Jd} (hp : Pr K p) (sp : jsz p ≤ 1002) (hn : 20000000 < n) (hK : 0 ≤ K) (hK1 : K ≤ 900) : ConcOk K true (s13 p) (f67 n 13 [p]) := by
  unfold jsz at sp
  have hB := BIG_eq
  have := lev_range hp.i
  simp only [f67, o67_0, c67_1, o67_1, c67_2, o67_2, ifB_eq, Int.reduceEq, decide_true, decide_false, if_true, if_false, reduceIte, Bool.false_eq_true, Option.bind_some, at0, at1, at2, at3, f101_0, f101_1, f101_2, f102_eq, f63_eq, f65_eq, f105_2, f105_3, Tm.eta, tz_eq, zj_eq, f94_eq, jd_eta]
  exact good_al (by omega) (fun h => ⟨by omega, hp.u, hp.u, hp.a⟩) (by simp [s13])
theorem a14_ok {K : Int} {n : Nat} {p : Jd} (hp : Pr K p) (sp : jsz p ≤ 1002) (hn : 20000000 < n) (hK : 0 ≤ K) (hK1 : K ≤ 900) : ConcOk K true (s14 p) (f67 n 14 [p]) := by
  unfold jsz at sp
  have hB := BIG_eq
  have := lev_range hp.i
  simp only [f67, o67_0, c67_1, o67_1, c67_2, o67_2, ifB_eq, Int.reduceEq, decide_true, decide_false, if_true, if_false, reduceIte, Bool.false_eq_true, Option.bind_some, at0, at1, at2, at3, f101_0, f101_1, f101_2, f102_eq, f63_eq, f65_eq, f105_2, f105_3, Tm.eta, tz_eq, zj_eq, f94_eq, jd_eta]
  exact good_al (by omega) (fun h => ⟨by omega, hp.v h, hp.u, hp.a⟩) (by simp [s14])
theorem a15_ok {K : Int} {n : Nat} {p : Jd} {q : Jd} (hp : Pr K p) (hq : Pr K q) (sp : jsz p ≤ 1002) (sq : jsz q ≤ 1002) (hn : 20000000 < n) (hK : 0 ≤ K) (hK1 : K ≤ 900) : ConcOk K true (s15 p q) (f67 n 15 [p, q]) := by
  unfold jsz at sp sq
  have hB := BIG_eq
  have := lev_range hp.i
  rw [f67_15 n p q (by unfold jsz; omega) (by unfold jsz; omega)]
  refine good_al (by omega) (fun h => ?_) (by simp [s15])
  simp only [hasB, Bool.and_eq_true, beq_iff_eq] at h
  exact ⟨by omega, hp.u, hq.v h.2.1.1, hp.a⟩
theorem a16_ok {K : Int} {n : Nat} {p : Jd} {q : Jd} (hp : Pr K p) (hq : Pr K q) (sp : jsz p ≤ 1002) (sq : jsz q ≤ 1002) (hn : 20000000 < n) (hK : 0 ≤ K) (hK1 : K ≤ 900) : ConcOk K true (s16 p q) (f67 n 16 [p, q]) := by
  unfold jsz at sp sq
  have hB := BIG_eq
  have := lev_range hp.i
  cases he : p.eq with
  | false =>
    simp only [f67, o67_0, c67_1, o67_1, c67_2, o67_2, ifB_eq, Int.reduceEq, decide_true, decide_false, if_true, if_false, reduceIte, Bool.false_eq_true, Option.bind_some, at0, at1, at2, at3, f101_0, f101_1, f101_2, f102_eq, f63_eq, f65_eq, f105_2, f105_3, Tm.eta, tz_eq, zj_eq, f94_eq, jd_eta, he]
    exact good_al (by omega) (fun h => by cases h) (by simp [s16, he])
  | true =>
    simp only [f67, o67_0, c67_1, o67_1, c67_2, o67_2, ifB_eq, Int.reduceEq, decide_true, decide_false, if_true, if_false, reduceIte, Bool.false_eq_true, Option.bind_some, at0, at1, at2, at3, f101_0, f101_1, f101_2, f102_eq, f63_eq, f65_eq, f105_2, f105_3, Tm.eta, tz_eq, zj_eq, f94_eq, jd_eta, he, f97_ok n p q (by omega) (by omega) hq.ai']
    refine good_al (by omega) (fun h => ?_) (by simp [s16, he])
    simp only [Bool.and_eq_true, convB] at h
    exact ⟨by omega, hp.u, hp.v he, hq.v (hq.sort h.1).1⟩
theorem a17_ok {K : Int} {n : Nat} {p : Jd} (hp : Pr K p) (sp : jsz p ≤ 1002) (hn : 20000000 < n) (hK : 0 ≤ K) (hK1 : K ≤ 900) : ConcOk K true (s17 p) (f67 n 17 [p]) := by
  unfold jsz at sp
  have hB := BIG_eq
  have hlv := lev_range hp.i
  cases he : p.eq with
  | true => simp only [f67, o67_0, c67_1, o67_1, c67_2, o67_2, ifB_eq, Int.reduceEq, decide_true, decide_false, if_true, if_false, reduceIte, Bool.false_eq_true, Option.bind_some, at0, at1, at2, at3, f101_0, f101_1, f101_2, f102_eq, f63_eq, f65_eq, f105_2, f105_3, Tm.eta, tz_eq, zj_eq, f94_eq, jd_eta, he]; exact good_no K true (by simp [s17, he])
  | false =>
  by_cases h1 : p.a.kind = 10
  case neg => simp only [f67, o67_0, c67_1, o67_1, c67_2, o67_2, ifB_eq, Int.reduceEq, decide_true, decide_false, if_true, if_false, reduceIte, Bool.false_eq_true, Option.bind_some, at0, at1, at2, at3, f101_0, f101_1, f101_2, f102_eq, f63_eq, f65_eq, f105_2, f105_3, Tm.eta, tz_eq, zj_eq, f94_eq, jd_eta, he, h1, Bool.not_false]; exact good_no K true (by simp [s17, h1])
  by_cases h2 : p.a.i = p.i
  case neg => simp only [f67, o67_0, c67_1, o67_1, c67_2, o67_2, ifB_eq, Int.reduceEq, decide_true, decide_false, if_true, if_false, reduceIte, Bool.false_eq_true, Option.bind_some, at0, at1, at2, at3, f101_0, f101_1, f101_2, f102_eq, f63_eq, f65_eq, f105_2, f105_3, Tm.eta, tz_eq, zj_eq, f94_eq, jd_eta, he, h1, h2, Bool.not_true, Bool.not_false]; exact good_no K true (by simp [s17, h2])
  have hnd := marked_node (pure_marked (pf_pure hp.a))
  have hl := kids_len hnd
  have hl3 : p.a.kids.length = 3 := by
    have : tkids p.a.kind p.a.n = 3 := by rw [h1]; rfl
    omega
  match hks : p.a.kids, hl3 with
  | [x, y, z], _ =>
    have hx := pf_kid hp.a (by omega) (idx := 0) (x := x) (by rw [hks]; rfl)
    have hy := pf_kid hp.a (by omega) (idx := 1) (x := y) (by rw [hks]; rfl)
    have hz := pf_kid hp.a (by omega) (idx := 2) (x := z) (by rw [hks]; rfl)
    rw [h1] at hx hy hz
    simp [tbinds] at hx hy hz
    have hs : Tm.sizes p.a.kids + 1 ≤ p.a.size := by cases p.a; simp only [Tm.size, Tm.kids]; omega
    rw [hks] at hs
    simp only [Tm.sizes] at hs
    simp only [f67, o67_0, c67_1, o67_1, c67_2, o67_2, ifB_eq, Int.reduceEq, decide_true, decide_false, if_true, if_false, reduceIte, Bool.false_eq_true, Option.bind_some, at0, at1, at2, at3, f101_0, f101_1, f101_2, f102_eq, f63_eq, f65_eq, f105_2, f105_3, Tm.eta, tz_eq, zj_eq, f94_eq, jd_eta, he, h1, h2, hks, Bool.not_true]
    exact good_al (by omega) (fun h => ⟨by omega, hy, hz, hx⟩) (by simp [s17, he, h1, h2, hks])
theorem a23_ok {K : Int} {n : Nat} {p : Jd} {q : Jd} (hp : Pr K p) (hq : Pr (K + 1) q) (sp : jsz p ≤ 1002) (sq : jsz q ≤ 1002) (hn : 20000000 < n) (hK : 0 ≤ K) (hK1 : K ≤ 900) : ConcOk K true (s23 p q) (f67 n 23 [p, q]) := by
  unfold jsz at sp sq
  have hB := BIG_eq
  have hlv := lev_range hq.i
  have e1 := put_size (b := q.u) (u := p.u) (m := 1002) (by omega) (by omega)
  have e2 := put_size (b := q.u) (u := p.v) (m := 1002) (by omega) (by omega)
  have e3 := put_size (b := q.a) (u := p.u) (m := 1002) (by omega) (by omega)
  cases he : p.eq with
  | false =>
    simp only [f67, o67_0, c67_1, o67_1, c67_2, o67_2, ifB_eq, Int.reduceEq, decide_true, decide_false, if_true, if_false, reduceIte, Bool.false_eq_true, Option.bind_some, at0, at1, at2, at3, f101_0, f101_1, f101_2, f102_eq, f63_eq, f65_eq, f105_2, f105_3, Tm.eta, tz_eq, zj_eq, f94_eq, jd_eta, he, f98_ok2 n q.u p.u (by omega) (by omega) (by omega) (by omega), f98_ok2 n q.u p.v (by omega) (by omega) (by omega) (by omega), f98_ok2 n q.a p.u (by omega) (by omega) (by omega) (by omega)]
    exact good_al (by omega) (fun h => by cases h) (by simp [s23, he])
  | true =>
    simp only [f67, o67_0, c67_1, o67_1, c67_2, o67_2, ifB_eq, Int.reduceEq, decide_true, decide_false, if_true, if_false, reduceIte, Bool.false_eq_true, Option.bind_some, at0, at1, at2, at3, f101_0, f101_1, f101_2, f102_eq, f63_eq, f65_eq, f105_2, f105_3, Tm.eta, tz_eq, zj_eq, f94_eq, jd_eta, he, f98_ok2 n q.u p.u (by omega) (by omega) (by omega) (by omega), f98_ok2 n q.u p.v (by omega) (by omega) (by omega) (by omega), f98_ok2 n q.a p.u (by omega) (by omega) (by omega) (by omega)]
    exact good_al (by omega) (fun h => ⟨by omega, pf_put hK (by omega) hq.u hp.u (by omega) (by omega), pf_put hK (by omega) hq.u (hp.v he) (by omega) (by omega), pf_put hK (by omega) hq.a hp.u (by omega) (by omega)⟩) (by simp [s23, he])
theorem a24_ok {K : Int} {n : Nat} {p : Jd} {q : Jd} (hp : Pr K p) (hq : Pr K q) (sp : jsz p ≤ 1002) (sq : jsz q ≤ 1002) (hn : 20000000 < n) (hK : 0 ≤ K) (hK1 : K ≤ 900) : ConcOk K true (s24 p q) (f67 n 24 [p, q]) := by
  unfold jsz at sp sq
  have hB := BIG_eq
  have hlv := lev_range hp.i
  have fin : ∀ b : Bool, s24 p q = (if b = true then some (Jd.mk true p.u q.u p.a p.i) else none) → ConcOk K true (s24 p q) (some (Jd.mk true p.u q.u p.a p.i, b)) := fun b hS => good_al (by omega) (fun h => ⟨by omega, hp.u, hq.u, hp.a⟩) hS
  cases he : p.eq with
  | true => simp only [f67, o67_0, c67_1, o67_1, c67_2, o67_2, ifB_eq, Int.reduceEq, decide_true, decide_false, if_true, if_false, reduceIte, Bool.false_eq_true, Option.bind_some, at0, at1, at2, at3, f101_0, f101_1, f101_2, f102_eq, f63_eq, f65_eq, f105_2, f105_3, Tm.eta, tz_eq, zj_eq, f94_eq, jd_eta, he, Bool.not_true]; exact fin _ (by simp [s24, he])
  | false =>
  by_cases h1 : p.a.kind = 10
  case neg => simp only [f67, o67_0, c67_1, o67_1, c67_2, o67_2, ifB_eq, Int.reduceEq, decide_true, decide_false, if_true, if_false, reduceIte, Bool.false_eq_true, Option.bind_some, at0, at1, at2, at3, f101_0, f101_1, f101_2, f102_eq, f63_eq, f65_eq, f105_2, f105_3, Tm.eta, tz_eq, zj_eq, f94_eq, jd_eta, he, h1, Bool.not_false]; exact fin _ (by simp [s24, h1])
  by_cases h2 : p.a.i = p.i
  case neg => simp only [f67, o67_0, c67_1, o67_1, c67_2, o67_2, ifB_eq, Int.reduceEq, decide_true, decide_false, if_true, if_false, reduceIte, Bool.false_eq_true, Option.bind_some, at0, at1, at2, at3, f101_0, f101_1, f101_2, f102_eq, f63_eq, f65_eq, f105_2, f105_3, Tm.eta, tz_eq, zj_eq, f94_eq, jd_eta, he, h1, h2, Bool.not_false]; exact fin _ (by simp [s24, h2])
  simp only [f67, o67_0, c67_1, o67_1, c67_2, o67_2, ifB_eq, Int.reduceEq, decide_true, decide_false, if_true, if_false, reduceIte, Bool.false_eq_true, Option.bind_some, at0, at1, at2, at3, f101_0, f101_1, f101_2, f102_eq, f63_eq, f65_eq, f105_2, f105_3, Tm.eta, tz_eq, zj_eq, f94_eq, jd_eta, he, h1, h2, Bool.not_false, f95_ok n q false p.a p.i (by omega) (by omega)]
  exact fin _ (by simp [s24, he, h1, h2])
theorem a25_ok {K : Int} {n : Nat} {p : Jd} {q : Jd} (hp : Pr K p) (hq : Pr (K + 1) q) (sp : jsz p ≤ 1002) (sq : jsz q ≤ 1002) (hn : 20000000 < n) (hK : 0 ≤ K) (hK1 : K ≤ 900) : ConcOk K true (s25 3 p q) (f67 n 25 [p, q]) := by
  unfold jsz at sp sq
  have hB := BIG_eq
  have h1 := hp.ai'
  have h2 := hq.ai'
  cases tp : typedB p true with
  | false => simp only [f67, o67_0, c67_1, o67_1, c67_2, o67_2, f99, o99_0, c99_1, o99_1, c99_2, o99_2, ifB_eq, Int.reduceEq, decide_true, decide_false, if_true, if_false, reduceIte, Bool.false_eq_true, Option.bind_some, at0, at1, at2, at3, f101_0, f101_1, f101_2, f102_eq, f63_eq, f65_eq, f105_2, f105_3, Tm.eta, tz_eq, zj_eq, f94_eq, jd_eta, f59_ok p true hp.ai, f59_ok q true hq.ai, tp, Bool.not_false]; exact good_no K true (by simp [s25, tp])
  | true =>
  cases tq : typedB q true with
  | false => simp only [f67, o67_0, c67_1, o67_1, c67_2, o67_2, f99, o99_0, c99_1, o99_1, c99_2, o99_2, ifB_eq, Int.reduceEq, decide_true, decide_false, if_true, if_false, reduceIte, Bool.false_eq_true, Option.bind_some, at0, at1, at2, at3, f101_0, f101_1, f101_2, f102_eq, f63_eq, f65_eq, f105_2, f105_3, Tm.eta, tz_eq, zj_eq, f94_eq, jd_eta, f59_ok p true hp.ai, f59_ok q true hq.ai, tp, tq, Bool.not_true, Bool.not_false]; exact good_no K true (by simp [s25, tq])
  | true =>
  simp only [f67, o67_0, c67_1, o67_1, c67_2, o67_2, f99, o99_0, c99_1, o99_1, c99_2, o99_2, ifB_eq, Int.reduceEq, decide_true, decide_false, if_true, if_false, reduceIte, Bool.false_eq_true, Option.bind_some, at0, at1, at2, at3, f101_0, f101_1, f101_2, f102_eq, f63_eq, f65_eq, f105_2, f105_3, Tm.eta, tz_eq, zj_eq, f94_eq, jd_eta, f59_ok p true hp.ai, f59_ok q true hq.ai, tp, tq, Bool.not_true, ckI_eq (show -9223372036854775808 ≤ max p.a.i q.a.i + 1 ∧ max p.a.i q.a.i + 1 ≤ 9223372036854775807 by omega)]
  have hf := fm_typed hp hq tp tq
  have hg : FmOk K ⟨p.a.i, q.a.i, p.v, q.v⟩ := ⟨hf.i, hf.j, hp.v (hp.sort tp).1, hq.v (hq.sort tq).1⟩
  exact good_al (by simp only [Tm.size, Tm.sizes]; omega) (fun h => ⟨by omega, pf_fm2 hK hf (by omega), pf_fm2 hK hg (by omega), pf_sort hK (lev_max hf.i hf.j)⟩) (by simp [s25, tp, tq])
theorem a26_ok {K : Int} {n : Nat} {p : Jd} {q : Jd} (hp : Pr K p) (hq : Pr (K + 1) q) (sp : jsz p ≤ 1002) (sq : jsz q ≤ 1002) (hn : 20000000 < n) (hK : 0 ≤ K) (hK1 : K ≤ 900) : ConcOk K true (s25 6 p q) (f67 n 26 [p, q]) := by
  unfold jsz at sp sq
  have hB := BIG_eq
  have h1 := hp.ai'
  have h2 := hq.ai'
  cases tp : typedB p true with
  | false => simp only [f67, o67_0, c67_1, o67_1, c67_2, o67_2, f99, o99_0, c99_1, o99_1, c99_2, o99_2, ifB_eq, Int.reduceEq, decide_true, decide_false, if_true, if_false, reduceIte, Bool.false_eq_true, Option.bind_some, at0, at1, at2, at3, f101_0, f101_1, f101_2, f102_eq, f63_eq, f65_eq, f105_2, f105_3, Tm.eta, tz_eq, zj_eq, f94_eq, jd_eta, f59_ok p true hp.ai, f59_ok q true hq.ai, tp, Bool.not_false]; exact good_no K true (by simp [s25, tp])
  | true =>
  cases tq : typedB q true with
  | false => simp only [f67, o67_0, c67_1, o67_1, c67_2, o67_2, f99, o99_0, c99_1, o99_1, c99_2, o99_2, ifB_eq, Int.reduceEq, decide_true, decide_false, if_true, if_false, reduceIte, Bool.false_eq_true, Option.bind_some, at0, at1, at2, at3, f101_0, f101_1, f101_2, f102_eq, f63_eq, f65_eq, f105_2, f105_3, Tm.eta, tz_eq, zj_eq, f94_eq, jd_eta, f59_ok p true hp.ai, f59_ok q true hq.ai, tp, tq, Bool.not_true, Bool.not_false]; exact good_no K true (by simp [s25, tq])
  | true =>
  simp only [f67, o67_0, c67_1, o67_1, c67_2, o67_2, f99, o99_0, c99_1, o99_1, c99_2, o99_2, ifB_eq, Int.reduceEq, decide_true, decide_false, if_true, if_false, reduceIte, Bool.false_eq_true, Option.bind_some, at0, at1, at2, at3, f101_0, f101_1, f101_2, f102_eq, f63_eq, f65_eq, f105_2, f105_3, Tm.eta, tz_eq, zj_eq, f94_eq, jd_eta, f59_ok p true hp.ai, f59_ok q true hq.ai, tp, tq, Bool.not_true, ckI_eq (show -9223372036854775808 ≤ max p.a.i q.a.i + 1 ∧ max p.a.i q.a.i + 1 ≤ 9223372036854775807 by omega)]
  have hf := fm_typed hp hq tp tq
  have hg : FmOk K ⟨p.a.i, q.a.i, p.v, q.v⟩ := ⟨hf.i, hf.j, hp.v (hp.sort tp).1, hq.v (hq.sort tq).1⟩
  exact good_al (by simp only [Tm.size, Tm.sizes]; omega) (fun h => ⟨by omega, pf_fm2 hK hf (by omega), pf_fm2 hK hg (by omega), pf_sort hK (lev_max hf.i hf.j)⟩) (by simp [s25, tp, tq])
theorem a27_ok {K : Int} {n : Nat} {p : Jd} {q : Jd} {s : Jd} (hp : Pr K p) (hq : Pr (K + 1) q) (hs : Pr (K + 1) s) (sp : jsz p ≤ 1002) (sq : jsz q ≤ 1002) (ss : jsz s ≤ 1002) (hn : 20000000 < n) (hK : 0 ≤ K) (hK1 : K ≤ 900) : ConcOk K true (s27 p q s) (f67 n 27 [p, q, s]) := by
  unfold jsz at sp sq ss
  have hB := BIG_eq
  have h1 := hp.ai'
  have h2 := hq.ai'
  cases tp : typedB p true with
  | false => simp only [f67, o67_0, c67_1, o67_1, c67_2, o67_2, f99, o99_0, c99_1, o99_1, c99_2, o99_2, ifB_eq, Int.reduceEq, decide_true, decide_false, if_true, if_false, reduceIte, Bool.false_eq_true, Option.bind_some, at0, at1, at2, at3, f101_0, f101_1, f101_2, f102_eq, f63_eq, f65_eq, f105_2, f105_3, Tm.eta, tz_eq, zj_eq, f94_eq, jd_eta, f59_ok p true hp.ai, f59_ok q true hq.ai, tp, Bool.not_false]; exact good_no K true (by simp [s27, tp])
  | true =>
  cases tq : typedB q true with
  | false => simp only [f67, o67_0, c67_1, o67_1, c67_2, o67_2, f99, o99_0, c99_1, o99_1, c99_2, o99_2, ifB_eq, Int.reduceEq, decide_true, decide_false, if_true, if_false, reduceIte, Bool.false_eq_true, Option.bind_some, at0, at1, at2, at3, f101_0, f101_1, f101_2, f102_eq, f63_eq, f65_eq, f105_2, f105_3, Tm.eta, tz_eq, zj_eq, f94_eq, jd_eta, f59_ok p true hp.ai, f59_ok q true hq.ai, tp, tq, Bool.not_true, Bool.not_false]; exact good_no K true (by simp [s27, tq])
  | true =>
  simp only [f67, o67_0, c67_1, o67_1, c67_2, o67_2, f99, o99_0, c99_1, o99_1, c99_2, o99_2, ifB_eq, Int.reduceEq, decide_true, decide_false, if_true, if_false, reduceIte, Bool.false_eq_true, Option.bind_some, at0, at1, at2, at3, f101_0, f101_1, f101_2, f102_eq, f63_eq, f65_eq, f105_2, f105_3, Tm.eta, tz_eq, zj_eq, f94_eq, jd_eta, f59_ok p true hp.ai, f59_ok q true hq.ai, tp, tq, Bool.not_true, f95_ok n s true q.u q.a.i (by omega) (by omega)]
  have hf := fm_typed hp hq tp tq
  have hg : FmOk K ⟨p.a.i, q.a.i, p.v, q.v⟩ := ⟨hf.i, hf.j, hp.v (hp.sort tp).1, hq.v (hq.sort tq).1⟩
  refine good_al (by simp only [Tm.size, Tm.sizes]; omega) (fun h => ?_) (by simp [s27, tp, tq])
  simp only [hasB, Bool.and_eq_true, beq_iff_eq] at h
  have w1 := pf_lam hK hf hs.u
  have w2 := pf_lam hK hg (hs.v h.1)
  have w3 := pf_fm2 (k := 3) hK hf (by omega)
  exact ⟨by omega, w1, w2, w3⟩
theorem a28_ok {K : Int} {n : Nat} {p : Jd} {q : Jd} {s : Jd} {t : Jd} (hp : Pr K p) (hq : Pr (K + 1) q) (hs : Pr K s) (ht : Pr K t) (sp : jsz p ≤ 1002) (sq : jsz q ≤ 1002) (ss : jsz s ≤ 1002) (st : jsz t ≤ 1002) (hn : 20000000 < n) (hK : 0 ≤ K) (hK1 : K ≤ 900) : ConcOk K true (s28 p q s t) (f67 n 28 [p, q, s, t]) := by
  unfold jsz at sp sq ss st
  have hB := BIG_eq
  have h1 := hp.ai'
  have h2 := hq.ai'
  cases tp : typedB p true with
  | false => simp only [f67, o67_0, c67_1, o67_1, c67_2, o67_2, f99, o99_0, c99_1, o99_1, c99_2, o99_2, ifB_eq, Int.reduceEq, decide_true, decide_false, if_true, if_false, reduceIte, Bool.false_eq_true, Option.bind_some, at0, at1, at2, at3, f101_0, f101_1, f101_2, f102_eq, f63_eq, f65_eq, f105_2, f105_3, Tm.eta, tz_eq, zj_eq, f94_eq, jd_eta, f59_ok p true hp.ai, f59_ok q true hq.ai, tp, Bool.not_false]; exact good_no K true (by simp [s28, tp])
  | true =>
  cases tq : typedB q true with
  | false => simp only [f67, o67_0, c67_1, o67_1, c67_2, o67_2, f99, o99_0, c99_1, o99_1, c99_2, o99_2, ifB_eq, Int.reduceEq, decide_true, decide_false, if_true, if_false, reduceIte, Bool.false_eq_true, Option.bind_some, at0, at1, at2, at3, f101_0, f101_1, f101_2, f102_eq, f63_eq, f65_eq, f105_2, f105_3, Tm.eta, tz_eq, zj_eq, f94_eq, jd_eta, f59_ok p true hp.ai, f59_ok q true hq.ai, tp, tq, Bool.not_true, Bool.not_false]; exact good_no K true (by simp [s28, tq])
  | true =>
  have hf := fm_typed hp hq tp tq
  have hg : FmOk K ⟨p.a.i, q.a.i, p.v, q.v⟩ := ⟨hf.i, hf.j, hp.v (hp.sort tp).1, hq.v (hq.sort tq).1⟩
  cases hh : hasB s false p.u p.a.i with
  | false => simp only [f67, o67_0, c67_1, o67_1, c67_2, o67_2, f99, o99_0, c99_1, o99_1, c99_2, o99_2, ifB_eq, Int.reduceEq, decide_true, decide_false, if_true, if_false, reduceIte, Bool.false_eq_true, Option.bind_some, at0, at1, at2, at3, f101_0, f101_1, f101_2, f102_eq, f63_eq, f65_eq, f105_2, f105_3, Tm.eta, tz_eq, zj_eq, f94_eq, jd_eta, f59_ok p true hp.ai, f59_ok q true hq.ai, tp, tq, Bool.not_true, Bool.not_false, f95_ok n s false p.u p.a.i (by omega) (by omega), hh]; exact good_no K true (by simp [s28, hh])
  | true =>
  cases hh2 : hasB t false (q.u.putZ s.u) q.a.i with
  | false => simp only [f67, o67_0, c67_1, o67_1, c67_2, o67_2, f99, o99_0, c99_1, o99_1, c99_2, o99_2, ifB_eq, Int.reduceEq, decide_true, decide_false, if_true, if_false, reduceIte, Bool.false_eq_true, Option.bind_some, at0, at1, at2, at3, f101_0, f101_1, f101_2, f102_eq, f63_eq, f65_eq, f105_2, f105_3, Tm.eta, tz_eq, zj_eq, f94_eq, jd_eta, f59_ok p true hp.ai, f59_ok q true hq.ai, tp, tq, Bool.not_true, Bool.not_false, f95_ok n s false p.u p.a.i (by omega) (by omega), hh, f98_ok2 n q.u s.u (by omega) (by omega) (by omega) (by omega), f95_ok n t false (q.u.putZ s.u) q.a.i (by omega) (by omega), hh2]; exact good_no K true (by simp [s28, hh2])
  | true =>
  simp only [f67, o67_0, c67_1, o67_1, c67_2, o67_2, f99, o99_0, c99_1, o99_1, c99_2, o99_2, ifB_eq, Int.reduceEq, decide_true, decide_false, if_true, if_false, reduceIte, Bool.false_eq_true, Option.bind_some, at0, at1, at2, at3, f101_0, f101_1, f101_2, f102_eq, f63_eq, f65_eq, f105_2, f105_3, Tm.eta, tz_eq, zj_eq, f94_eq, jd_eta, f59_ok p true hp.ai, f59_ok q true hq.ai, tp, tq, Bool.not_true, Bool.not_false, f95_ok n s false p.u p.a.i (by omega) (by omega), hh, f98_ok2 n q.u s.u (by omega) (by omega) (by omega) (by omega), f95_ok n t false (q.u.putZ s.u) q.a.i (by omega) (by omega), hh2]
  have w1 := pf_fm4 (k := 7) hK hf (by omega) hs.u ht.u
  have w2 := pf_fm4 (k := 7) hK hg (by omega) hs.u ht.u
  have w3 := pf_fm2 (k := 6) hK hf (by omega)
  exact good_al (by simp only [Tm.size, Tm.sizes]; omega) (fun h => ⟨by omega, w1, w2, w3⟩) (by simp [s28, tp, tq, hh, hh2])
theorem a18_ok {K : Int} {n : Nat} {p : Jd} {q : Jd} (hp : Pr K p) (hq : Pr (K + 1) q) (sp : jsz p ≤ 1002) (sq : jsz q ≤ 1002) (hn : 20000000 < n) (hK : 0 ≤ K) (hK1 : K ≤ 900) : ConcOk K true (s18 p q) (f67 n 18 [p, q]) := by
  unfold jsz at sp sq
  have hB := BIG_eq
  have hlv := lev_range hq.i
  have e1 := put_size (b := q.u) (u := p.u) (m := 1002) (by omega) (by omega)
  have e2 := put_size (b := q.a) (u := p.u) (m := 1002) (by omega) (by omega)
  have hf : FmOk K ⟨p.i, q.i, p.a, q.a⟩ := ⟨hp.i, hq.i, hp.a, hq.a⟩
  have hl := pf_lam hK hf hq.u
  have fin : ∀ b : Bool, s18 p q = (if b = true then some (Jd.mk true (Tm.mk 5 p.i q.i 0 [p.a, q.a, Tm.mk 4 p.i q.i 0 [p.a, q.a, q.u], p.u]) (q.u.putZ p.u) (q.a.putZ p.u) q.i) else none) → ConcOk K true (s18 p q) (some (Jd.mk true (Tm.mk 5 p.i q.i 0 [p.a, q.a, Tm.mk 4 p.i q.i 0 [p.a, q.a, q.u], p.u]) (q.u.putZ p.u) (q.a.putZ p.u) q.i, b)) := fun b hS =>
    good_al (by simp only [Tm.size, Tm.sizes]; omega) (fun h => ⟨by omega, pf_fm4 hK hf (by omega) hl hp.u, pf_put hK (by omega) hq.u hp.u (by omega) (by omega), pf_put hK (by omega) hq.a hp.u (by omega) (by omega)⟩) hS
  cases he : p.eq with
  | false =>
    simp only [f67, o67_0, c67_1, o67_1, c67_2, o67_2, f100, o100_0, ifB_eq, Int.reduceEq, decide_true, decide_false, if_true, if_false, reduceIte, Bool.false_eq_true, Option.bind_some, at0, at1, at2, at3, f101_0, f101_1, f101_2, f102_eq, f63_eq, f65_eq, f105_2, f105_3, Tm.eta, tz_eq, zj_eq, f94_eq, jd_eta, he, Bool.not_false, Bool.not_true, f98_ok2 n q.u p.u (by omega) (by omega) (by omega) (by omega), f98_ok2 n q.a p.u (by omega) (by omega) (by omega) (by omega)]
    exact fin _ (by simp [s18, he])
  | true =>
    simp only [f67, o67_0, c67_1, o67_1, c67_2, o67_2, f100, o100_0, ifB_eq, Int.reduceEq, decide_true, decide_false, if_true, if_false, reduceIte, Bool.false_eq_true, Option.bind_some, at0, at1, at2, at3, f101_0, f101_1, f101_2, f102_eq, f63_eq, f65_eq, f105_2, f105_3, Tm.eta, tz_eq, zj_eq, f94_eq, jd_eta, he, Bool.not_false, Bool.not_true, f98_ok2 n q.u p.u (by omega) (by omega) (by omega) (by omega), f98_ok2 n q.a p.u (by omega) (by omega) (by omega) (by omega)]
    exact fin _ (by simp [s18, he])
theorem a19_ok {K : Int} {n : Nat} {p : Jd} {q : Jd} {s : Jd} (hp : Pr K p) (hq : Pr (K + 1) q) (hs : Pr K s) (sp : jsz p ≤ 1002) (sq : jsz q ≤ 1002) (ss : jsz s ≤ 1002) (hn : 20000000 < n) (hK : 0 ≤ K) (hK1 : K ≤ 900) : ConcOk K true (s19 p q s) (f67 n 19 [p, q, s]) := by
  unfold jsz at sp sq ss
  have hB := BIG_eq
  obtain ⟨f, t, b, hf, hS, f1, _, f2, f3, _⟩ := f104_ok hn hK (by omega) hp hq hs (by unfold jsz; omega) (by unfold jsz; omega) (by unfold jsz; omega)
  simp only [f67, o67_0, c67_1, o67_1, c67_2, o67_2, f100, o100_0, ifB_eq, Int.reduceEq, decide_true, decide_false, if_true, if_false, reduceIte, Bool.false_eq_true, Option.bind_some, at0, at1, at2, at3, f101_0, f101_1, f101_2, f102_eq, f63_eq, f65_eq, f105_2, f105_3, Tm.eta, tz_eq, zj_eq, f94_eq, jd_eta, hf]
  refine good_al (by simp only [Tm.size, Tm.sizes]; omega) (fun h => ?_) (by cases b <;> simp [s19, hS])
  obtain ⟨g1, g2, _⟩ := f3 h
  have := lev_range g1.i
  exact ⟨by omega, pf_fm3 hK g1 (by omega) g2, hp.u, g1.a⟩
theorem a20_ok {K : Int} {n : Nat} {p : Jd} {q : Jd} {s : Jd} (hp : Pr K p) (hq : Pr (K + 1) q) (hs : Pr K s) (sp : jsz p ≤ 1002) (sq : jsz q ≤ 1002) (ss : jsz s ≤ 1002) (hn : 20000000 < n) (hK : 0 ≤ K) (hK1 : K ≤ 900) : ConcOk K true (s20 p q s) (f67 n 20 [p, q, s]) := by
  unfold jsz at sp sq ss
  have hB := BIG_eq
  obtain ⟨f, t, b, hf, hS, f1, f1', f2, f3, _⟩ := f104_ok hn hK (by omega) hp hq hs (by unfold jsz; omega) (by unfold jsz; omega) (by unfold jsz; omega)
  have e1 := put_size (b := f.b) (u := p.u) (m := 1002) (by omega) (by omega)
  cases b with
  | false => simp only [f67, o67_0, c67_1, o67_1, c67_2, o67_2, f100, o100_0, ifB_eq, Int.reduceEq, decide_true, decide_false, if_true, if_false, reduceIte, Bool.false_eq_true, Option.bind_some, at0, at1, at2, at3, f101_0, f101_1, f101_2, f102_eq, f63_eq, f65_eq, f105_2, f105_3, Tm.eta, tz_eq, zj_eq, f94_eq, jd_eta, hf, Bool.not_false]; exact good_no K true (by simp [s20, hS])
  | true =>
    obtain ⟨g1, g2, _⟩ := f3 rfl
    have := lev_range g1.j
    simp only [f67, o67_0, c67_1, o67_1, c67_2, o67_2, f100, o100_0, ifB_eq, Int.reduceEq, decide_true, decide_false, if_true, if_false, reduceIte, Bool.false_eq_true, Option.bind_some, at0, at1, at2, at3, f101_0, f101_1, f101_2, f102_eq, f63_eq, f65_eq, f105_2, f105_3, Tm.eta, tz_eq, zj_eq, f94_eq, jd_eta, hf, Bool.not_true, f98_ok2 n f.b p.u (by omega) (by omega) (by omega) (by omega)]
    exact good_al (by simp only [Tm.size, Tm.sizes]; omega) (fun h => ⟨by omega, pf_fm3 hK g1 (by omega) g2, hs.u, pf_put hK (by omega) g1.b hp.u (by omega) (by omega)⟩) (by simp [s20, hS])
theorem f124_ok {n : Nat} {K f : Int} {t : Tm} (h : pf K t = true) (hf : 0 ≤ f) (hK : K ≤ 1000) (hs : t.size ≤ 100000) (hn : 20000000 < n) : f124 n t f = some (Tm.up 1 f t) := by
  unfold f124 o124_0
  rw [f93_ok n t 1 f (by omega) (by omega) (by rw [BIG_eq]; omega), Option.bind_some, liftZ_pf h hf hK hs]
theorem a21_ok {K : Int} {n : Nat} {p : Jd} (hp : Pr K p) (sp : jsz p ≤ 1002) (hn : 20000000 < n) (hK : 0 ≤ K) (hK1 : K ≤ 900) : ConcOk K true (s21 p) (f67 n 21 [p]) := by
  unfold jsz at sp
  have hB := BIG_eq
  obtain ⟨f, b, hf, hS, fs, fo⟩ := f103_ok hp 3 (.inl rfl)
  cases b with
  | false => simp only [f67, o67_0, c67_1, o67_1, c67_2, o67_2, f100, o100_0, ifB_eq, Int.reduceEq, decide_true, decide_false, if_true, if_false, reduceIte, Bool.false_eq_true, Option.bind_some, at0, at1, at2, at3, f101_0, f101_1, f101_2, f102_eq, f63_eq, f65_eq, f105_2, f105_3, Tm.eta, tz_eq, zj_eq, f94_eq, jd_eta, hf, Bool.not_false]; exact good_no K true (by simp [s21, hS])
  | true =>
    obtain ⟨_, g, _⟩ := fo rfl
    have := lev_range g.i
    have w1 := f124_ok (n := n) g.a (f := 0) (by omega) (by omega) (by omega) hn
    have w2 := f124_ok (n := n) g.b (f := 1) (by omega) (by omega) (by omega) hn
    have w3 := f124_ok (n := n) hp.u (f := 0) (by omega) (by omega) (by omega) hn
    simp only [f67, o67_0, c67_1, o67_1, c67_2, o67_2, f100, o100_0, ifB_eq, Int.reduceEq, decide_true, decide_false, if_true, if_false, reduceIte, Bool.false_eq_true, Option.bind_some, at0, at1, at2, at3, f101_0, f101_1, f101_2, f102_eq, f63_eq, f65_eq, f105_2, f105_3, Tm.eta, tz_eq, zj_eq, f94_eq, jd_eta, hf, Bool.not_true, w1, w2, w3]
    have u1 := pf_up g.a (f := 0) (by omega) (by omega) (by omega)
    have u2 := pf_up g.b (f := 1) (by omega) (by omega) (by omega)
    have u3 := pf_up hp.u (f := 0) (by omega) (by omega) (by omega)
    have hg : FmOk (K + 1) ⟨f.i, f.j, Tm.up 1 0 f.a, Tm.up 1 1 f.b⟩ := ⟨g.i, g.j, u1, u2⟩
    have hv := pf_var (K := K + 1) (i := 0) (by omega) (by omega) (by omega)
    have ha := pf_fm4 (by omega) hg (k := 5) (by omega) u3 hv
    exact good_al (by simp only [Tm.size, Tm.sizes, Tm.up_size]; omega) (fun h => ⟨by omega, hp.u, pf_lam hK g ha, pf_fm2 hK g (by omega)⟩) (by simp [s21, hS])
theorem a22_ok {K : Int} {n : Nat} {p : Jd} (hp : Pr K p) (sp : jsz p ≤ 1002) (hn : 20000000 < n) (hK : 0 ≤ K) (hK1 : K ≤ 900) : ConcOk K true (s22 p) (f67 n 22 [p]) := by
  unfold jsz at sp
  have hB := BIG_eq
  obtain ⟨f, b, hf, hS, fs, fo⟩ := f103_ok hp 6 (.inr rfl)
  cases b with
  | false => simp only [f67, o67_0, c67_1, o67_1, c67_2, o67_2, f100, o100_0, ifB_eq, Int.reduceEq, decide_true, decide_false, if_true, if_false, reduceIte, Bool.false_eq_true, Option.bind_some, at0, at1, at2, at3, f101_0, f101_1, f101_2, f102_eq, f63_eq, f65_eq, f105_2, f105_3, Tm.eta, tz_eq, zj_eq, f94_eq, jd_eta, hf, Bool.not_false]; exact good_no K true (by simp [s22, hS])
  | true =>
    obtain ⟨_, g, _⟩ := fo rfl
    have := lev_range g.i
    simp only [f67, o67_0, c67_1, o67_1, c67_2, o67_2, f100, o100_0, ifB_eq, Int.reduceEq, decide_true, decide_false, if_true, if_false, reduceIte, Bool.false_eq_true, Option.bind_some, at0, at1, at2, at3, f101_0, f101_1, f101_2, f102_eq, f63_eq, f65_eq, f105_2, f105_3, Tm.eta, tz_eq, zj_eq, f94_eq, jd_eta, hf, Bool.not_true]
    exact good_al (by simp only [Tm.size, Tm.sizes]; omega) (fun h => ⟨by omega, hp.u, pf_fm4 hK g (by omega) (pf_fm3 hK g (k := 8) (by omega) hp.u) (pf_fm3 hK g (k := 9) (by omega) hp.u), pf_fm2 hK g (by omega)⟩) (by simp [s22, hS])
end Go.Proofs.YtcaahmielncmpaaGreat
