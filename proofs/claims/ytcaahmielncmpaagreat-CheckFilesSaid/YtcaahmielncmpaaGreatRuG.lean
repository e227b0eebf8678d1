/-
  Plain facts on what the functions compute.
-/
import Derived.Test.YtcaahmielncmpaaGreatRuF
set_option linter.unusedSimpArgs false
set_option linter.unusedVariables false
namespace Go.Proofs.YtcaahmielncmpaaGreat
open Go
set_option maxRecDepth 20000

theorem t3_ok {K : Int} {n : Nat} {p q : Jd} (hK : 0 ≤ K) (hp : Pr K p) (hq : Pr (K + 1) q) (sp : jsz p ≤ 1002) (sq : jsz q ≤ 1002) : ConcOk K false (s3 3 p q) (f68 n 3 [p, q]) := by
  unfold jsz at sp sq
  have h1 := hp.ai'
  have h2 := hq.ai'
  simp only [f68, o68_0, c68_1, o68_1, c68_2, o68_2, c68_3, o68_3, c68_4, o68_4, c68_5, o68_5, ifB_eq, Int.reduceEq, decide_true, decide_false, if_true, if_false, reduceIte, Bool.false_eq_true, Option.bind_some, at0, at1, at2, at3, f101_0, f101_1, f101_2, f102_eq, f63_eq, f65_eq, f105_2, f105_3, Tm.eta, tz_eq, zj_eq, f94_eq, jd_eta, f59_ok p false hp.ai, f59_ok q false hq.ai, ckI_eq (show -9223372036854775808 ≤ max p.a.i q.a.i + 1 ∧ max p.a.i q.a.i + 1 ≤ 9223372036854775807 by omega)]
  cases tp : typedB p false with
  | false =>
    simp only [ifB_eq, Int.reduceEq, decide_true, decide_false, if_true, if_false, reduceIte, Bool.false_eq_true, Option.bind_some, at0, at1, at2, at3, f101_0, f101_1, f101_2, f102_eq, f63_eq, f65_eq, f105_2, f105_3, Tm.eta, tz_eq, zj_eq, f94_eq, jd_eta]
    exact good_ty (by simp only [Tm.size, Tm.sizes]; omega) (fun h => by cases h) (by simp [s3, tp])
  | true =>
    simp only [ifB_eq, Int.reduceEq, decide_true, decide_false, if_true, if_false, reduceIte, Bool.false_eq_true, Option.bind_some, at0, at1, at2, at3, f101_0, f101_1, f101_2, f102_eq, f63_eq, f65_eq, f105_2, f105_3, Tm.eta, tz_eq, zj_eq, f94_eq, jd_eta]
    refine good_ty (by simp only [Tm.size, Tm.sizes]; omega) (fun h => ?_) (by simp [s3, tp])
    have hf := fm_typed hp hq tp h
    exact ⟨by omega, pf_fm2 hK hf (by omega), pf_sort hK (lev_max hf.i hf.j)⟩
theorem t6_ok {K : Int} {n : Nat} {p q : Jd} (hK : 0 ≤ K) (hp : Pr K p) (hq : Pr (K + 1) q) (sp : jsz p ≤ 1002) (sq : jsz q ≤ 1002) : ConcOk K false (s3 6 p q) (f68 n 6 [p, q]) := by
  unfold jsz at sp sq
  have h1 := hp.ai'
  have h2 := hq.ai'
  simp only [f68, o68_0, c68_1, o68_1, c68_2, o68_2, c68_3, o68_3, c68_4, o68_4, c68_5, o68_5, ifB_eq, Int.reduceEq, decide_true, decide_false, if_true, if_false, reduceIte, Bool.false_eq_true, Option.bind_some, at0, at1, at2, at3, f101_0, f101_1, f101_2, f102_eq, f63_eq, f65_eq, f105_2, f105_3, Tm.eta, tz_eq, zj_eq, f94_eq, jd_eta, f59_ok p false hp.ai, f59_ok q false hq.ai, ckI_eq (show -9223372036854775808 ≤ max p.a.i q.a.i + 1 ∧ max p.a.i q.a.i + 1 ≤ 9223372036854775807 by omega)]
  cases tp : typedB p false with
  | false =>
    simp only [ifB_eq, Int.reduceEq, decide_true, decide_false, if_true, if_false, reduceIte, Bool.false_eq_true, Option.bind_some, at0, at1, at2, at3, f101_0, f101_1, f101_2, f102_eq, f63_eq, f65_eq, f105_2, f105_3, Tm.eta, tz_eq, zj_eq, f94_eq, jd_eta]
    exact good_ty (by simp only [Tm.size, Tm.sizes]; omega) (fun h => by cases h) (by simp [s3, tp])
  | true =>
    simp only [ifB_eq, Int.reduceEq, decide_true, decide_false, if_true, if_false, reduceIte, Bool.false_eq_true, Option.bind_some, at0, at1, at2, at3, f101_0, f101_1, f101_2, f102_eq, f63_eq, f65_eq, f105_2, f105_3, Tm.eta, tz_eq, zj_eq, f94_eq, jd_eta]
    refine good_ty (by simp only [Tm.size, Tm.sizes]; omega) (fun h => ?_) (by simp [s3, tp])
    have hf := fm_typed hp hq tp h
    exact ⟨by omega, pf_fm2 hK hf (by omega), pf_sort hK (lev_max hf.i hf.j)⟩
theorem t4_ok {K : Int} {n : Nat} {p q : Jd} (hK : 0 ≤ K) (hp : Pr K p) (hq : Pr (K + 1) q) (sp : jsz p ≤ 1002) (sq : jsz q ≤ 1002) : ConcOk K false (s4 p q) (f68 n 4 [p, q]) := by
  unfold jsz at sp sq
  simp only [f68, o68_0, c68_1, o68_1, c68_2, o68_2, c68_3, o68_3, c68_4, o68_4, c68_5, o68_5, ifB_eq, Int.reduceEq, decide_true, decide_false, if_true, if_false, reduceIte, Bool.false_eq_true, Option.bind_some, at0, at1, at2, at3, f101_0, f101_1, f101_2, f102_eq, f63_eq, f65_eq, f105_2, f105_3, Tm.eta, tz_eq, zj_eq, f94_eq, jd_eta, f59_ok p false hp.ai]
  cases tp : typedB p false with
  | false =>
    simp only [ifB_eq, Int.reduceEq, decide_true, decide_false, if_true, if_false, reduceIte, Bool.false_eq_true, Option.bind_some, at0, at1, at2, at3, f101_0, f101_1, f101_2, f102_eq, f63_eq, f65_eq, f105_2, f105_3, Tm.eta, tz_eq, zj_eq, f94_eq, jd_eta]
    exact good_ty (by simp only [Tm.size, Tm.sizes]; omega) (fun h => by cases h) (by simp [s4, tp])
  | true =>
    simp only [ifB_eq, Int.reduceEq, decide_true, decide_false, if_true, if_false, reduceIte, Bool.false_eq_true, Option.bind_some, at0, at1, at2, at3, f101_0, f101_1, f101_2, f102_eq, f63_eq, f65_eq, f105_2, f105_3, Tm.eta, tz_eq, zj_eq, f94_eq, jd_eta]
    refine good_ty (by simp only [Tm.size, Tm.sizes]; omega) (fun h => ?_) (by simp [s4, tp])
    have hf : FmOk K ⟨p.a.i, q.i, p.u, q.a⟩ := ⟨(hp.sort tp).2, hq.i, hp.u, hq.a⟩
    have := lev_range hq.i
    exact ⟨by omega, pf_lam hK hf hq.u, pf_fm2 hK hf (by omega)⟩
theorem put_size {b u : Tm} {m : Nat} (hb : b.size ≤ 1100) (hu : u.size ≤ m) : (b.putZ u).size ≤ 1100 * m :=
  Nat.le_trans (Tm.putZ_size b u) (Nat.mul_le_mul hb hu)
theorem t5_ok {K : Int} {n : Nat} {p q : Jd} (hn : 20000000 < n) (hK : 0 ≤ K) (hK1 : K ≤ 1000) (hp : Pr K p) (hq : Pr K q) (sp : jsz p ≤ 1002) (sq : jsz q ≤ 1002) : ConcOk K false (s5 p q) (f68 n 5 [p, q]) := by
  unfold jsz at sp sq
  have hB := BIG_eq
  obtain ⟨f, b, hf, hS, fs, fo⟩ := f103_ok hp 3 (.inl rfl)
  simp only [f68, o68_0, c68_1, o68_1, c68_2, o68_2, c68_3, o68_3, c68_4, o68_4, c68_5, o68_5, ifB_eq, Int.reduceEq, decide_true, decide_false, if_true, if_false, reduceIte, Bool.false_eq_true, Option.bind_some, at0, at1, at2, at3, f101_0, f101_1, f101_2, f102_eq, f63_eq, f65_eq, f105_2, f105_3, Tm.eta, tz_eq, zj_eq, f94_eq, jd_eta, hf]
  cases b with
  | false => simp only [ifB_eq, Int.reduceEq, decide_true, decide_false, if_true, if_false, reduceIte, Bool.false_eq_true, Option.bind_some, at0, at1, at2, at3, f101_0, f101_1, f101_2, f102_eq, f63_eq, f65_eq, f105_2, f105_3, Tm.eta, tz_eq, zj_eq, f94_eq, jd_eta, Bool.not_false]; exact good_no K false (by simp [s5, hS])
  | true =>
    obtain ⟨_, hfm, _⟩ := fo rfl
    simp only [ifB_eq, Int.reduceEq, decide_true, decide_false, if_true, if_false, reduceIte, Bool.false_eq_true, Option.bind_some, at0, at1, at2, at3, f101_0, f101_1, f101_2, f102_eq, f63_eq, f65_eq, f105_2, f105_3, Tm.eta, tz_eq, zj_eq, f94_eq, jd_eta, Bool.not_true, f95_ok n q false f.a f.i (by omega) (by omega)]
    cases hh : hasB q false f.a f.i with
    | false => simp only [ifB_eq, Int.reduceEq, decide_true, decide_false, if_true, if_false, reduceIte, Bool.false_eq_true, Option.bind_some, at0, at1, at2, at3, f101_0, f101_1, f101_2, f102_eq, f63_eq, f65_eq, f105_2, f105_3, Tm.eta, tz_eq, zj_eq, f94_eq, jd_eta, Bool.not_false]; exact good_no K false (by simp [s5, hS, hh])
    | true =>
      have := put_size (b := f.b) (u := q.u) (m := 1002) (by omega) (by omega)
      simp only [ifB_eq, Int.reduceEq, decide_true, decide_false, if_true, if_false, reduceIte, Bool.false_eq_true, Option.bind_some, at0, at1, at2, at3, f101_0, f101_1, f101_2, f102_eq, f63_eq, f65_eq, f105_2, f105_3, Tm.eta, tz_eq, zj_eq, f94_eq, jd_eta, Bool.not_true, f98_ok2 n f.b q.u (by omega) (by omega) (by omega) (by omega)]
      refine good_ty (by simp only [Tm.size, Tm.sizes]; omega) (fun _ => ?_) (by simp [s5, hS, hh])
      have := lev_range hfm.j
      exact ⟨by omega, pf_fm4 hK hfm (by omega) hp.u hq.u, pf_put hK hK1 hfm.b hq.u (by omega) (by omega)⟩
theorem t8_ok {K : Int} {n : Nat} {p : Jd} (hK : 0 ≤ K) (hp : Pr K p) (sp : jsz p ≤ 1002) : ConcOk K false (s8 p) (f68 n 8 [p]) := by
  unfold jsz at sp
  obtain ⟨f, b, hf, hS, fs, fo⟩ := f103_ok hp 6 (.inr rfl)
  simp only [f68, o68_0, c68_1, o68_1, c68_2, o68_2, c68_3, o68_3, c68_4, o68_4, c68_5, o68_5, ifB_eq, Int.reduceEq, decide_true, decide_false, if_true, if_false, reduceIte, Bool.false_eq_true, Option.bind_some, at0, at1, at2, at3, f101_0, f101_1, f101_2, f102_eq, f63_eq, f65_eq, f105_2, f105_3, Tm.eta, tz_eq, zj_eq, f94_eq, jd_eta, hf]
  cases b with
  | false => simp only [ifB_eq, Int.reduceEq, decide_true, decide_false, if_true, if_false, reduceIte, Bool.false_eq_true, Option.bind_some, at0, at1, at2, at3, f101_0, f101_1, f101_2, f102_eq, f63_eq, f65_eq, f105_2, f105_3, Tm.eta, tz_eq, zj_eq, f94_eq, jd_eta, Bool.not_false]; exact good_no K false (by simp [s8, hS])
  | true =>
    obtain ⟨_, hfm, _⟩ := fo rfl
    simp only [ifB_eq, Int.reduceEq, decide_true, decide_false, if_true, if_false, reduceIte, Bool.false_eq_true, Option.bind_some, at0, at1, at2, at3, f101_0, f101_1, f101_2, f102_eq, f63_eq, f65_eq, f105_2, f105_3, Tm.eta, tz_eq, zj_eq, f94_eq, jd_eta, Bool.not_true]
    refine good_ty (by simp only [Tm.size, Tm.sizes]; omega) (fun _ => ?_) (by simp [s8, hS])
    have := lev_range hfm.i
    exact ⟨by omega, pf_fm3 hK hfm (by omega) hp.u, hfm.a⟩
theorem t9_ok {K : Int} {n : Nat} {p : Jd} (hn : 20000000 < n) (hK : 0 ≤ K) (hK1 : K ≤ 1000) (hp : Pr K p) (sp : jsz p ≤ 1002) : ConcOk K false (s9 p) (f68 n 9 [p]) := by
  unfold jsz at sp
  have hB := BIG_eq
  obtain ⟨f, b, hf, hS, fs, fo⟩ := f103_ok hp 6 (.inr rfl)
  simp only [f68, o68_0, c68_1, o68_1, c68_2, o68_2, c68_3, o68_3, c68_4, o68_4, c68_5, o68_5, ifB_eq, Int.reduceEq, decide_true, decide_false, if_true, if_false, reduceIte, Bool.false_eq_true, Option.bind_some, at0, at1, at2, at3, f101_0, f101_1, f101_2, f102_eq, f63_eq, f65_eq, f105_2, f105_3, Tm.eta, tz_eq, zj_eq, f94_eq, jd_eta, hf]
  cases b with
  | false => simp only [ifB_eq, Int.reduceEq, decide_true, decide_false, if_true, if_false, reduceIte, Bool.false_eq_true, Option.bind_some, at0, at1, at2, at3, f101_0, f101_1, f101_2, f102_eq, f63_eq, f65_eq, f105_2, f105_3, Tm.eta, tz_eq, zj_eq, f94_eq, jd_eta, Bool.not_false]; exact good_no K false (by simp [s9, hS])
  | true =>
    obtain ⟨_, hfm, _⟩ := fo rfl
    have hfst : (Tm.mk 8 f.i f.j 0 [f.a, f.b, p.u]).size ≤ 4000 := by simp only [Tm.size, Tm.sizes]; omega
    have hpf := pf_fm3 hK hfm (k := 8) (by omega) hp.u
    have := put_size (b := f.b) (u := Tm.mk 8 f.i f.j 0 [f.a, f.b, p.u]) (m := 4000) (by omega) hfst
    simp only [ifB_eq, Int.reduceEq, decide_true, decide_false, if_true, if_false, reduceIte, Bool.false_eq_true, Option.bind_some, at0, at1, at2, at3, f101_0, f101_1, f101_2, f102_eq, f63_eq, f65_eq, f105_2, f105_3, Tm.eta, tz_eq, zj_eq, f94_eq, jd_eta, Bool.not_true, f98_ok2 n f.b (Tm.mk 8 f.i f.j 0 [f.a, f.b, p.u]) (by omega) (by omega) (by omega) (by omega)]
    refine good_ty (by simp only [Tm.size, Tm.sizes] at this ⊢; omega) (fun _ => ?_) (by simp [s9, hS])
    have := lev_range hfm.j
    exact ⟨by omega, pf_fm3 hK hfm (by omega) hp.u, pf_put hK hK1 hfm.b hpf (by omega) (by omega)⟩
theorem t10_ok {K : Int} {n : Nat} {p q : Jd} (hn : 20000000 < n) (hK : 0 ≤ K) (hp : Pr K p) (hq : Pr K q) (sp : jsz p ≤ 1002) (sq : jsz q ≤ 1002) : ConcOk K false (s10 p q) (f68 n 10 [p, q]) := by
  unfold jsz at sp sq
  have hB := BIG_eq
  have := lev_range hp.i
  cases he : p.eq with
  | true =>
    simp only [f68, o68_0, c68_1, o68_1, c68_2, o68_2, c68_3, o68_3, c68_4, o68_4, c68_5, o68_5, ifB_eq, Int.reduceEq, decide_true, decide_false, if_true, if_false, reduceIte, Bool.false_eq_true, Option.bind_some, at0, at1, at2, at3, f101_0, f101_1, f101_2, f102_eq, f63_eq, f65_eq, f105_2, f105_3, Tm.eta, tz_eq, zj_eq, f94_eq, jd_eta, he, Bool.not_true, ckI_eq (show -9223372036854775808 ≤ p.i + 1 ∧ p.i + 1 ≤ 9223372036854775807 by omega)]
    exact good_ty (by simp only [Tm.size, Tm.sizes]; omega) (fun h => by cases h) (by simp [s10, he])
  | false =>
    simp only [f68, o68_0, c68_1, o68_1, c68_2, o68_2, c68_3, o68_3, c68_4, o68_4, c68_5, o68_5, ifB_eq, Int.reduceEq, decide_true, decide_false, if_true, if_false, reduceIte, Bool.false_eq_true, Option.bind_some, at0, at1, at2, at3, f101_0, f101_1, f101_2, f102_eq, f63_eq, f65_eq, f105_2, f105_3, Tm.eta, tz_eq, zj_eq, f94_eq, jd_eta, he, Bool.not_false, f95_ok n q false p.a p.i (by omega) (by omega), ckI_eq (show -9223372036854775808 ≤ p.i + 1 ∧ p.i + 1 ≤ 9223372036854775807 by omega)]
    exact good_ty (by simp only [Tm.size, Tm.sizes]; omega) (fun h => ⟨by omega, pf_eq hK hp.i hp.a hp.u hq.u, pf_sort hK hp.i⟩) (by simp [s10, he])
theorem t11_ok {K : Int} {n : Nat} {p : Jd} (hK : 0 ≤ K) (hp : Pr K p) (sp : jsz p ≤ 1002) : ConcOk K false (s11 p) (f68 n 11 [p]) := by
  unfold jsz at sp
  have := lev_range hp.i
  simp only [f68, o68_0, c68_1, o68_1, c68_2, o68_2, c68_3, o68_3, c68_4, o68_4, c68_5, o68_5, ifB_eq, Int.reduceEq, decide_true, decide_false, if_true, if_false, reduceIte, Bool.false_eq_true, Option.bind_some, at0, at1, at2, at3, f101_0, f101_1, f101_2, f102_eq, f63_eq, f65_eq, f105_2, f105_3, Tm.eta, tz_eq, zj_eq, f94_eq, jd_eta]
  exact good_ty (by simp only [Tm.size, Tm.sizes]; omega) (fun h => ⟨by omega, pf_refl hK hp.i hp.a hp.u, pf_eq hK hp.i hp.a hp.u hp.u⟩) (by simp [s11])
theorem t12_ok {K : Int} {n : Nat} {p q : Jd} (hn : 20000000 < n) (hp : Pr K p) (hq : Pr K q) (sp : jsz p ≤ 1002) (sq : jsz q ≤ 1002) : ConcOk K false (s12 p q) (f68 n 12 [p, q]) := by
  have hB := BIG_eq
  rw [f68_12 n p q (by omega) hq.ai']
  unfold jsz at sp sq
  have := lev_range hp.i
  refine good_ty (by omega) (fun h => ⟨by omega, hp.u, hq.v ?_⟩) (by simp [s12])
  simp only [Bool.and_eq_true, convB] at h
  exact (hq.sort h.2.1).1
/-- A pair of three premises. -/
theorem f104_ok {K : Int} {n : Nat} {p q s : Jd} (hn : 20000000 < n) (hK : 0 ≤ K) (hK1 : K ≤ 1000) (hp : Pr K p) (hq : Pr (K + 1) q) (hs : Pr K s) (sp : jsz p ≤ 1002) (sq : jsz q ≤ 1002) (ss : jsz s ≤ 1002) :
    ∃ f t b, f104 n [p, q, s] = some (f, t, b) ∧ pairS p q s = (if b = true then some (f, t) else none) ∧ f.a.size + f.b.size ≤ 2004 ∧ f.b.size ≤ 1002 ∧ t.size ≤ 5000 ∧ (b = true → FmOk K f ∧ pf K t = true ∧ p.eq = false ∧ s.eq = false) ∧ (b = false → t = tzero) := by
  unfold jsz at sp sq ss
  have hB := BIG_eq
  have hz := tzero_size
  simp only [f104, o104_0, c104_1, o104_1, ifB_eq, Int.reduceEq, decide_true, decide_false, if_true, if_false, reduceIte, Bool.false_eq_true, Option.bind_some, at0, at1, at2, at3, f101_0, f101_1, f101_2, f102_eq, f63_eq, f65_eq, f105_2, f105_3, Tm.eta, tz_eq, zj_eq, f94_eq, jd_eta, f59_ok q false hq.ai]
  cases tq : typedB q false with
  | false =>
    simp only [ifB_eq, Int.reduceEq, decide_true, decide_false, if_true, if_false, reduceIte, Bool.false_eq_true, Option.bind_some, at0, at1, at2, at3, f101_0, f101_1, f101_2, f102_eq, f63_eq, f65_eq, f105_2, f105_3, Tm.eta, tz_eq, zj_eq, f94_eq, jd_eta, Bool.not_false]
    exact ⟨_, _, _, rfl, by simp [pairS, tq], by show tzero.size + tzero.size ≤ _; omega, by show tzero.size ≤ _; omega, by omega, fun h => (by cases h), fun _ => rfl⟩
  | true =>
    simp only [ifB_eq, Int.reduceEq, decide_true, decide_false, if_true, if_false, reduceIte, Bool.false_eq_true, Option.bind_some, at0, at1, at2, at3, f101_0, f101_1, f101_2, f102_eq, f63_eq, f65_eq, f105_2, f105_3, Tm.eta, tz_eq, zj_eq, f94_eq, jd_eta, Bool.not_true]
    cases he : p.eq with
    | true =>
      simp only [ifB_eq, Int.reduceEq, decide_true, decide_false, if_true, if_false, reduceIte, Bool.false_eq_true, Option.bind_some, at0, at1, at2, at3, f101_0, f101_1, f101_2, f102_eq, f63_eq, f65_eq, f105_2, f105_3, Tm.eta, tz_eq, zj_eq, f94_eq, jd_eta]
      exact ⟨_, _, _, rfl, by simp [pairS, tq, he], by show tzero.size + tzero.size ≤ _; omega, by show tzero.size ≤ _; omega, by omega, fun h => (by cases h), fun _ => rfl⟩
    | false =>
      simp only [ifB_eq, Int.reduceEq, decide_true, decide_false, if_true, if_false, reduceIte, Bool.false_eq_true, Option.bind_some, at0, at1, at2, at3, f101_0, f101_1, f101_2, f102_eq, f63_eq, f65_eq, f105_2, f105_3, Tm.eta, tz_eq, zj_eq, f94_eq, jd_eta, f98_ok2 n q.u p.u (by omega) (by omega) (by omega) (by omega), f95_ok n s false (q.u.putZ p.u) q.a.i (by omega) (by omega)]
      cases hh : hasB s false (q.u.putZ p.u) q.a.i with
      | false =>
        simp only [ifB_eq, Int.reduceEq, decide_true, decide_false, if_true, if_false, reduceIte, Bool.false_eq_true, Option.bind_some, at0, at1, at2, at3, f101_0, f101_1, f101_2, f102_eq, f63_eq, f65_eq, f105_2, f105_3, Tm.eta, tz_eq, zj_eq, f94_eq, jd_eta, Bool.not_false]
        exact ⟨_, _, _, rfl, by simp [pairS, tq, he, hh], by show tzero.size + tzero.size ≤ _; omega, by show tzero.size ≤ _; omega, by omega, fun h => (by cases h), fun _ => rfl⟩
      | true =>
        simp only [ifB_eq, Int.reduceEq, decide_true, decide_false, if_true, if_false, reduceIte, Bool.false_eq_true, Option.bind_some, at0, at1, at2, at3, f101_0, f101_1, f101_2, f102_eq, f63_eq, f65_eq, f105_2, f105_3, Tm.eta, tz_eq, zj_eq, f94_eq, jd_eta, Bool.not_true]
        refine ⟨_, _, _, rfl, by simp [pairS, tq, he, hh], by show p.a.size + q.u.size ≤ _; omega, by show q.u.size ≤ _; omega, by simp only [Tm.size, Tm.sizes]; omega, fun _ => ?_, fun h => by cases h⟩
        have hf : FmOk K ⟨p.i, q.a.i, p.a, q.u⟩ := ⟨hp.i, (hq.sort tq).2, hp.a, hq.u⟩
        refine ⟨hf, pf_fm4 hK hf (by omega) hp.u hs.u, trivial, ?_⟩
        simp only [hasB, Bool.and_eq_true, beq_iff_eq] at hh
        exact hh.1
theorem t7_ok {K : Int} {n : Nat} {p q s : Jd} (hn : 20000000 < n) (hK : 0 ≤ K) (hK1 : K ≤ 1000) (hp : Pr K p) (hq : Pr (K + 1) q) (hs : Pr K s) (sp : jsz p ≤ 1002) (sq : jsz q ≤ 1002) (ss : jsz s ≤ 1002) : ConcOk K false (s7 p q s) (f68 n 7 [p, q, s]) := by
  obtain ⟨f, t, b, hf, hS, f1, _, f2, f3, _⟩ := f104_ok hn hK hK1 hp hq hs sp sq ss
  simp only [f68, o68_0, c68_1, o68_1, c68_2, o68_2, c68_3, o68_3, c68_4, o68_4, c68_5, o68_5, ifB_eq, Int.reduceEq, decide_true, decide_false, if_true, if_false, reduceIte, Bool.false_eq_true, Option.bind_some, at0, at1, at2, at3, f101_0, f101_1, f101_2, f102_eq, f63_eq, f65_eq, f105_2, f105_3, Tm.eta, tz_eq, zj_eq, f94_eq, jd_eta, hf]
  refine good_ty (by simp only [Tm.size, Tm.sizes]; omega) (fun h => ?_) (by cases b <;> simp [s7, hS])
  obtain ⟨g1, g2, _⟩ := f3 h
  have := lev_range g1.i
  exact ⟨by omega, g2, pf_fm2 hK g1 (by omega)⟩
end Go.Proofs.YtcaahmielncmpaaGreat
