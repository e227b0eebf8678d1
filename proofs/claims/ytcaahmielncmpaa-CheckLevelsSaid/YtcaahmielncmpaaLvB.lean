/-
  Plain facts on what the functions compute.
-/
import Derived.Test.YtcaahmielncmpaaLvA
set_option linter.unusedSimpArgs false
set_option linter.unusedVariables false
namespace Go.Proofs.Ytcaahmielncmpaa
open Go
set_option maxRecDepth 20000

theorem ifs {α : Type} {b : Bool} {x J : α} (h : (if b = true then some x else none) = some J) : b = true ∧ J = x := by
  cases b with
  | true => rw [if_pos rfl] at h; cases h; exact ⟨rfl, rfl⟩
  | false => rw [if_neg (by simp)] at h; cases h
/-- A judgment whose levels are right. -/
structure WJ (G : List Int) (J : Jd) : Prop where
  u : wl G J.u
  lu : lvl G J.u = J.i
  a : wl G J.a
  la : lvl G J.a = J.i + 1
  v : J.eq = true → wl G J.v ∧ lvl G J.v = J.i
theorem wl_sort (G : List Int) (i j n : Int) : wl G (.mk 1 i j n []) := by simp [wl, wls]
theorem wl_pi {G : List Int} {k i j n : Int} {a b : Tm} (hk : k = 3 ∨ k = 6) : wl G (.mk k i j n [a, b]) ↔ (wl G a ∧ lvl G a = i + 1) ∧ (wl (i :: G) b ∧ lvl (i :: G) b = j + 1) := by
  rcases hk with rfl | rfl <;> simp [wl, wls, ext, tbinds, req]
theorem wl_lam {G : List Int} {i j n : Int} {a b t : Tm} : wl G (.mk 4 i j n [a, b, t]) ↔ (wl G a ∧ lvl G a = i + 1) ∧ (wl (i :: G) b ∧ lvl (i :: G) b = j + 1) ∧ (wl (i :: G) t ∧ lvl (i :: G) t = j) := by
  simp [wl, wls, ext, tbinds, req]
theorem wl_app {G : List Int} {i j n : Int} {a b t u : Tm} : wl G (.mk 5 i j n [a, b, t, u]) ↔ (wl G a ∧ lvl G a = i + 1) ∧ (wl (i :: G) b ∧ lvl (i :: G) b = j + 1) ∧ (wl G t ∧ lvl G t = max i j) ∧ (wl G u ∧ lvl G u = i) := by
  simp [wl, wls, ext, tbinds, req]
theorem wl_pair {G : List Int} {i j n : Int} {a b t u : Tm} : wl G (.mk 7 i j n [a, b, t, u]) ↔ (wl G a ∧ lvl G a = i + 1) ∧ (wl (i :: G) b ∧ lvl (i :: G) b = j + 1) ∧ (wl G t ∧ lvl G t = i) ∧ (wl G u ∧ lvl G u = j) := by
  simp [wl, wls, ext, tbinds, req]
theorem wl_prj {G : List Int} {k i j n : Int} {a b t : Tm} (hk : k = 8 ∨ k = 9) : wl G (.mk k i j n [a, b, t]) ↔ (wl G a ∧ lvl G a = i + 1) ∧ (wl (i :: G) b ∧ lvl (i :: G) b = j + 1) ∧ (wl G t ∧ lvl G t = max i j) := by
  rcases hk with rfl | rfl <;> simp [wl, wls, ext, tbinds, req]
theorem wl_eqt {G : List Int} {i j n : Int} {a t u : Tm} : wl G (.mk 10 i j n [a, t, u]) ↔ (wl G a ∧ lvl G a = i + 1) ∧ (wl G t ∧ lvl G t = i) ∧ (wl G u ∧ lvl G u = i) := by
  simp [wl, wls, ext, tbinds, req]
theorem wl_refl {G : List Int} {i j n : Int} {a t : Tm} : wl G (.mk 11 i j n [a, t]) ↔ (wl G a ∧ lvl G a = i + 1) ∧ (wl G t ∧ lvl G t = i) := by
  simp [wl, wls, ext, tbinds, req]
theorem lvl1 (G : List Int) (i j n : Int) (ks : List Tm) : lvl G (.mk 1 i j n ks) = i + 2 := rfl
theorem lvl3 (G : List Int) (i j n : Int) (ks : List Tm) : lvl G (.mk 3 i j n ks) = max i j + 1 := rfl
theorem lvl4 (G : List Int) (i j n : Int) (ks : List Tm) : lvl G (.mk 4 i j n ks) = max i j := rfl
theorem lvl5 (G : List Int) (i j n : Int) (ks : List Tm) : lvl G (.mk 5 i j n ks) = j := rfl
theorem lvl6 (G : List Int) (i j n : Int) (ks : List Tm) : lvl G (.mk 6 i j n ks) = max i j + 1 := rfl
theorem lvl7 (G : List Int) (i j n : Int) (ks : List Tm) : lvl G (.mk 7 i j n ks) = max i j := rfl
theorem lvl8 (G : List Int) (i j n : Int) (ks : List Tm) : lvl G (.mk 8 i j n ks) = i := rfl
theorem lvl9 (G : List Int) (i j n : Int) (ks : List Tm) : lvl G (.mk 9 i j n ks) = j := rfl
theorem lvl10 (G : List Int) (i j n : Int) (ks : List Tm) : lvl G (.mk 10 i j n ks) = i + 1 := rfl
theorem lvl11 (G : List Int) (i j n : Int) (ks : List Tm) : lvl G (.mk 11 i j n ks) = i := rfl
theorem typedB_of {j : Jd} {b : Bool} (h : typedB j b = true) : j.eq = b ∧ j.a.kind = 1 ∧ j.i = j.a.i + 1 := by
  unfold typedB at h
  simp only [Bool.and_eq_true, beq_iff_eq, decide_eq_true_eq] at h
  exact h
theorem hasB_of {j : Jd} {e : Bool} {a : Tm} {i : Int} (h : hasB j e a i = true) : j.eq = e ∧ j.i = i ∧ j.a = a := by
  unfold hasB at h
  simp only [Bool.and_eq_true, beq_iff_eq, decide_eq_true_eq] at h
  exact ⟨h.1, h.2.1, (Tm.same_iff _ _).1 h.2.2⟩
theorem famS_of {p : Jd} {k : Int} {f : Fm} (h : famS p k = some f) : p.eq = false ∧ p.i = max f.i f.j ∧ p.a = Tm.mk k f.i f.j p.a.n [f.a, f.b] := by
  unfold famS at h
  split at h
  · rename_i hc
    simp only [Bool.and_eq_true, Bool.not_eq_true', decide_eq_true_eq] at hc
    split at h
    · rename_i x y hks
      cases h
      refine ⟨hc.1, hc.2.2, ?_⟩
      show p.a = Tm.mk k p.a.i p.a.j p.a.n [x, y]
      rw [← hks, ← hc.2.1, Tm.eta]
    · cases h
  · cases h
theorem famS_wl {G : List Int} {p : Jd} {k : Int} {f : Fm} (hk : k = 3 ∨ k = 6) (h : famS p k = some f) (hp : WJ G p) : (wl G f.a ∧ lvl G f.a = f.i + 1) ∧ (wl (f.i :: G) f.b ∧ lvl (f.i :: G) f.b = f.j + 1) := by
  have ha := hp.a
  rw [(famS_of h).2.2] at ha
  exact (wl_pi hk).1 ha
theorem famS_pf {K : Int} {p : Jd} {k : Int} {f : Fm} (hk : k = 3 ∨ k = 6) (h : famS p k = some f) (hp : Pr K p) : pf (K + 1) f.b = true ∧ f.a.size + f.b.size ≤ p.a.size := by
  obtain ⟨_, _, h3⟩ := famS_of h
  have hx := pf_kid hp.a (idx := 1) (x := f.b) (by rw [h3]; show 3 ≤ k ∧ k ≤ 11; omega) (by rw [h3]; rfl)
  rw [h3] at hx
  refine ⟨?_, ?_⟩
  · rcases hk with rfl | rfl <;> simpa [tbinds, Tm.kind] using hx
  · rw [h3]; simp only [Tm.size, Tm.sizes]; omega
theorem pairS_of {p q s : Jd} {x : Fm × Tm} (h : pairS p q s = some x) : (typedB q false = true ∧ p.eq = false ∧ hasB s false (q.u.putZ p.u) q.a.i = true) ∧ x = (⟨p.i, q.a.i, p.a, q.u⟩, Tm.mk 7 p.i q.a.i 0 [p.a, q.u, p.u, s.u]) := by
  obtain ⟨h1, h2⟩ := ifs h
  simp only [Bool.and_eq_true, Bool.not_eq_true'] at h1
  exact ⟨h1, h2⟩
/-- A pair's parts and the pair. -/
theorem pairS_wl {G : List Int} {p q s : Jd} {f : Fm} {t : Tm} (h : pairS p q s = some (f, t)) (wp : WJ G p) (wq : WJ (p.i :: G) q) (ws : WJ G s) : (wl G f.a ∧ lvl G f.a = f.i + 1) ∧ (wl (f.i :: G) f.b ∧ lvl (f.i :: G) f.b = f.j + 1) ∧ wl G t ∧ lvl G t = max f.i f.j ∧ f.i = p.i ∧ f.b = q.u ∧ f.j = s.i := by
  obtain ⟨⟨h1, h2, h3⟩, h4⟩ := pairS_of h
  cases h4
  obtain ⟨t1, t2, t3⟩ := typedB_of h1
  obtain ⟨e1, e2, e3⟩ := hasB_of h3
  have hq := wq.lu
  have hsu := ws.lu
  refine ⟨⟨wp.a, wp.la⟩, ⟨wq.u, by show lvl (p.i :: G) q.u = q.a.i + 1; omega⟩, wl_pair.2 ⟨⟨wp.a, wp.la⟩, ⟨wq.u, by omega⟩, ⟨wp.u, wp.lu⟩, ⟨ws.u, by omega⟩⟩, rfl, rfl, rfl, e2.symm⟩
theorem s3_wl {K : Int} {G : List Int} (hK : 0 ≤ K) (hK1 : K ≤ 900) {p : Jd} {q : Jd} (wp : WJ G p) (hp : Pr K p) (sp : jsz p ≤ 1002) (wq : WJ (p.a.i :: G) q) (hq : Pr (K + 1) q) (sq : jsz q ≤ 1002) {J : Jd} (h : s3 3 p q = some J) : WJ G J := by
  unfold jsz at sp sq
  obtain ⟨hb, rfl⟩ := ifs h
  simp only [Bool.and_eq_true, Bool.not_eq_true', decide_eq_true_eq] at hb
  obtain ⟨a1, a2, a3⟩ := typedB_of hb.1
  obtain ⟨b1, b2, b3⟩ := typedB_of hb.2
  have := wp.lu; have := wq.lu
  exact ⟨(wl_pi (.inl rfl)).2 ⟨⟨wp.u, by omega⟩, ⟨wq.u, by omega⟩⟩, lvl3 _ _ _ _ _, wl_sort _ _ _ _, by rw [lvl1]; show _ = max p.a.i q.a.i + 1 + 1; omega, fun h => by cases h⟩
theorem s6_wl {K : Int} {G : List Int} (hK : 0 ≤ K) (hK1 : K ≤ 900) {p : Jd} {q : Jd} (wp : WJ G p) (hp : Pr K p) (sp : jsz p ≤ 1002) (wq : WJ (p.a.i :: G) q) (hq : Pr (K + 1) q) (sq : jsz q ≤ 1002) {J : Jd} (h : s3 6 p q = some J) : WJ G J := by
  unfold jsz at sp sq
  obtain ⟨hb, rfl⟩ := ifs h
  simp only [Bool.and_eq_true, Bool.not_eq_true', decide_eq_true_eq] at hb
  obtain ⟨a1, a2, a3⟩ := typedB_of hb.1
  obtain ⟨b1, b2, b3⟩ := typedB_of hb.2
  have := wp.lu; have := wq.lu
  exact ⟨(wl_pi (.inr rfl)).2 ⟨⟨wp.u, by omega⟩, ⟨wq.u, by omega⟩⟩, lvl6 _ _ _ _ _, wl_sort _ _ _ _, by rw [lvl1]; show _ = max p.a.i q.a.i + 1 + 1; omega, fun h => by cases h⟩
theorem s4_wl {K : Int} {G : List Int} (hK : 0 ≤ K) (hK1 : K ≤ 900) {p : Jd} {q : Jd} (wp : WJ G p) (hp : Pr K p) (sp : jsz p ≤ 1002) (wq : WJ (p.a.i :: G) q) (hq : Pr (K + 1) q) (sq : jsz q ≤ 1002) {J : Jd} (h : s4 p q = some J) : WJ G J := by
  unfold jsz at sp sq
  obtain ⟨hb, rfl⟩ := ifs h
  simp only [Bool.and_eq_true, Bool.not_eq_true', decide_eq_true_eq] at hb
  obtain ⟨a1, a2, a3⟩ := typedB_of hb.1
  have := wp.lu; have := wq.lu; have := wq.la
  exact ⟨wl_lam.2 ⟨⟨wp.u, by omega⟩, ⟨wq.a, by omega⟩, ⟨wq.u, by omega⟩⟩, lvl4 _ _ _ _ _, (wl_pi (.inl rfl)).2 ⟨⟨wp.u, by omega⟩, ⟨wq.a, by omega⟩⟩, lvl3 _ _ _ _ _, fun h => by cases h⟩
theorem s5_wl {K : Int} {G : List Int} (hK : 0 ≤ K) (hK1 : K ≤ 900) {p : Jd} {q : Jd} (wp : WJ G p) (hp : Pr K p) (sp : jsz p ≤ 1002) (wq : WJ G q) (hq : Pr K q) (sq : jsz q ≤ 1002) {J : Jd} (h : s5 p q = some J) : WJ G J := by
  unfold jsz at sp sq
  unfold s5 at h
  split at h
  case h_2 => cases h
  rename_i f hf
  have hw := famS_wl (.inl rfl) hf wp
  have hpf := famS_pf (.inl rfl) hf hp
  obtain ⟨f1, f2, f3⟩ := famS_of hf
  have lp := wp.lu
  obtain ⟨hb, rfl⟩ := ifs h
  obtain ⟨b1, b2, b3⟩ := hasB_of hb
  have := wq.lu
  obtain ⟨p1, p2⟩ := put_wl (l := f.i) hK (by omega) hpf.1 hq.u (by omega) (by omega) hw.2.1 wq.u (by omega)
  exact ⟨wl_app.2 ⟨hw.1, hw.2, ⟨wp.u, by omega⟩, ⟨wq.u, by omega⟩⟩, lvl5 _ _ _ _ _, p1, by rw [p2]; exact hw.2.2, fun h => by cases h⟩
theorem s7_wl {K : Int} {G : List Int} (hK : 0 ≤ K) (hK1 : K ≤ 900) {p : Jd} {q : Jd} {s : Jd} (wp : WJ G p) (hp : Pr K p) (sp : jsz p ≤ 1002) (wq : WJ (p.i :: G) q) (hq : Pr (K + 1) q) (sq : jsz q ≤ 1002) (ws : WJ G s) (hs : Pr K s) (ss : jsz s ≤ 1002) {J : Jd} (h : s7 p q s = some J) : WJ G J := by
  unfold jsz at sp sq ss
  unfold s7 at h
  split at h
  case h_2 => cases h
  rename_i f t hf
  cases h
  obtain ⟨g1, g2, g3, g4, _⟩ := pairS_wl hf wp wq ws
  exact ⟨g3, g4, (wl_pi (.inr rfl)).2 ⟨g1, g2⟩, lvl6 _ _ _ _ _, fun h => by cases h⟩
theorem s8_wl {K : Int} {G : List Int} (hK : 0 ≤ K) (hK1 : K ≤ 900) {p : Jd} (wp : WJ G p) (hp : Pr K p) (sp : jsz p ≤ 1002) {J : Jd} (h : s8 p = some J) : WJ G J := by
  unfold jsz at sp
  unfold s8 at h
  split at h
  case h_2 => cases h
  rename_i f hf
  have hw := famS_wl (.inr rfl) hf wp
  have hq := famS_pf (.inr rfl) hf hp
  obtain ⟨f1, f2, f3⟩ := famS_of hf
  have lp := wp.lu
  cases h
  exact ⟨(wl_prj (.inl rfl)).2 ⟨hw.1, hw.2, ⟨wp.u, by omega⟩⟩, lvl8 _ _ _ _ _, hw.1.1, hw.1.2, fun h => by cases h⟩
theorem s9_wl {K : Int} {G : List Int} (hK : 0 ≤ K) (hK1 : K ≤ 900) {p : Jd} (wp : WJ G p) (hp : Pr K p) (sp : jsz p ≤ 1002) {J : Jd} (h : s9 p = some J) : WJ G J := by
  unfold jsz at sp
  unfold s9 at h
  split at h
  case h_2 => cases h
  rename_i f hf
  have hw := famS_wl (.inr rfl) hf wp
  have hq := famS_pf (.inr rfl) hf hp
  obtain ⟨f1, f2, f3⟩ := famS_of hf
  have lp := wp.lu
  cases h
  have hfst : wl G (Tm.mk 8 f.i f.j 0 [f.a, f.b, p.u]) := (wl_prj (.inl rfl)).2 ⟨hw.1, hw.2, ⟨wp.u, by omega⟩⟩
  have hx := pf_kid hp.a (idx := 0) (x := f.a) (by rw [f3]; show (3 : Int) ≤ 6 ∧ (6 : Int) ≤ 11; omega) (by rw [f3]; rfl)
  rw [f3] at hx
  have hnd := marked_node (pure_marked (pf_pure hp.a))
  obtain ⟨l1, l2, l3⟩ := tnums_lev hnd (by rw [f3]; show (3 : Int) ≤ 6 ∧ (6 : Int) ≤ 9; omega)
  rw [f3] at l1 l2
  have hfm : FmOk K f := ⟨l1, l2, by simpa [tbinds, Tm.kind] using hx, hq.1⟩
  have hpf := pf_fm3 hK hfm (k := 8) (by omega) hp.u
  obtain ⟨p1, p2⟩ := put_wl (l := f.i) hK (by omega) hq.1 hpf (by omega) (by simp only [Tm.size, Tm.sizes]; omega) hw.2.1 hfst (lvl8 _ _ _ _ _)
  exact ⟨(wl_prj (.inr rfl)).2 ⟨hw.1, hw.2, ⟨wp.u, by omega⟩⟩, lvl9 _ _ _ _ _, p1, by rw [p2]; exact hw.2.2, fun h => by cases h⟩
theorem s10_wl {K : Int} {G : List Int} (hK : 0 ≤ K) (hK1 : K ≤ 900) {p : Jd} {q : Jd} (wp : WJ G p) (hp : Pr K p) (sp : jsz p ≤ 1002) (wq : WJ G q) (hq : Pr K q) (sq : jsz q ≤ 1002) {J : Jd} (h : s10 p q = some J) : WJ G J := by
  unfold jsz at sp sq
  obtain ⟨hb, rfl⟩ := ifs h
  simp only [Bool.and_eq_true, Bool.not_eq_true', decide_eq_true_eq] at hb
  obtain ⟨b1, b2, b3⟩ := hasB_of hb.2
  have := wp.lu; have := wq.lu; have := wp.la
  exact ⟨wl_eqt.2 ⟨⟨wp.a, by omega⟩, ⟨wp.u, by omega⟩, ⟨wq.u, by omega⟩⟩, lvl10 _ _ _ _ _, wl_sort _ _ _ _, by rw [lvl1]; show _ = p.i + 1 + 1; omega, fun h => by cases h⟩
theorem s11_wl {K : Int} {G : List Int} (hK : 0 ≤ K) (hK1 : K ≤ 900) {p : Jd} (wp : WJ G p) (hp : Pr K p) (sp : jsz p ≤ 1002) {J : Jd} (h : s11 p = some J) : WJ G J := by
  unfold jsz at sp
  obtain ⟨hb, rfl⟩ := ifs h
  simp only [Bool.and_eq_true, Bool.not_eq_true', decide_eq_true_eq] at hb
  exact ⟨wl_refl.2 ⟨⟨wp.a, wp.la⟩, ⟨wp.u, wp.lu⟩⟩, lvl11 _ _ _ _ _, wl_eqt.2 ⟨⟨wp.a, wp.la⟩, ⟨wp.u, wp.lu⟩, ⟨wp.u, wp.lu⟩⟩, lvl10 _ _ _ _ _, fun h => by cases h⟩
theorem s12_wl {K : Int} {G : List Int} (hK : 0 ≤ K) (hK1 : K ≤ 900) {p : Jd} {q : Jd} (wp : WJ G p) (hp : Pr K p) (sp : jsz p ≤ 1002) (wq : WJ G q) (hq : Pr K q) (sq : jsz q ≤ 1002) {J : Jd} (h : s12 p q = some J) : WJ G J := by
  unfold jsz at sp sq
  obtain ⟨hb, rfl⟩ := ifs h
  simp only [Bool.and_eq_true, Bool.not_eq_true', decide_eq_true_eq] at hb
  unfold convB at hb
  simp only [Bool.and_eq_true, decide_eq_true_eq] at hb
  obtain ⟨a1, a2, a3⟩ := typedB_of hb.2.1
  obtain ⟨v1, v2⟩ := wq.v a1
  have lu := wq.lu
  have la := wp.la
  rw [← (Tm.same_iff _ _).1 hb.2.2.2] at lu
  exact ⟨wp.u, wp.lu, v1, by show lvl G q.v = p.i + 1; omega, fun h => by cases h⟩
theorem s13_wl {K : Int} {G : List Int} (hK : 0 ≤ K) (hK1 : K ≤ 900) {p : Jd} (wp : WJ G p) (hp : Pr K p) (sp : jsz p ≤ 1002) {J : Jd} (h : s13 p = some J) : WJ G J := by
  unfold jsz at sp
  obtain ⟨hb, rfl⟩ := ifs h
  simp only [Bool.and_eq_true, Bool.not_eq_true', decide_eq_true_eq] at hb
  exact ⟨wp.u, wp.lu, wp.a, wp.la, fun _ => ⟨wp.u, wp.lu⟩⟩
theorem s14_wl {K : Int} {G : List Int} (hK : 0 ≤ K) (hK1 : K ≤ 900) {p : Jd} (wp : WJ G p) (hp : Pr K p) (sp : jsz p ≤ 1002) {J : Jd} (h : s14 p = some J) : WJ G J := by
  unfold jsz at sp
  obtain ⟨hb, rfl⟩ := ifs h
  exact ⟨(wp.v hb).1, (wp.v hb).2, wp.a, wp.la, fun _ => ⟨wp.u, wp.lu⟩⟩
theorem s15_wl {K : Int} {G : List Int} (hK : 0 ≤ K) (hK1 : K ≤ 900) {p : Jd} {q : Jd} (wp : WJ G p) (hp : Pr K p) (sp : jsz p ≤ 1002) (wq : WJ G q) (hq : Pr K q) (sq : jsz q ≤ 1002) {J : Jd} (h : s15 p q = some J) : WJ G J := by
  unfold jsz at sp sq
  obtain ⟨hb, rfl⟩ := ifs h
  simp only [Bool.and_eq_true, Bool.not_eq_true', decide_eq_true_eq] at hb
  obtain ⟨b1, b2, b3⟩ := hasB_of hb.2.1
  obtain ⟨v1, v2⟩ := wq.v b1
  exact ⟨wp.u, wp.lu, wp.a, wp.la, fun _ => ⟨v1, by show lvl G q.v = p.i; omega⟩⟩
theorem s16_wl {K : Int} {G : List Int} (hK : 0 ≤ K) (hK1 : K ≤ 900) {p : Jd} {q : Jd} (wp : WJ G p) (hp : Pr K p) (sp : jsz p ≤ 1002) (wq : WJ G q) (hq : Pr K q) (sq : jsz q ≤ 1002) {J : Jd} (h : s16 p q = some J) : WJ G J := by
  unfold jsz at sp sq
  obtain ⟨hb, rfl⟩ := ifs h
  simp only [Bool.and_eq_true, Bool.not_eq_true', decide_eq_true_eq] at hb
  unfold convB at hb
  simp only [Bool.and_eq_true, decide_eq_true_eq] at hb
  obtain ⟨a1, a2, a3⟩ := typedB_of hb.2.1
  obtain ⟨v1, v2⟩ := wq.v a1
  have lu := wq.lu
  have la := wp.la
  rw [← (Tm.same_iff _ _).1 hb.2.2.2] at lu
  exact ⟨wp.u, wp.lu, v1, by show lvl G q.v = p.i + 1; omega, fun _ => wp.v hb.1⟩
theorem s17_wl {K : Int} {G : List Int} (hK : 0 ≤ K) (hK1 : K ≤ 900) {p : Jd} (wp : WJ G p) (hp : Pr K p) (sp : jsz p ≤ 1002) {J : Jd} (h : s17 p = some J) : WJ G J := by
  unfold jsz at sp
  unfold s17 at h
  split at h
  case isFalse => cases h
  rename_i hb
  simp only [Bool.and_eq_true, Bool.not_eq_true', decide_eq_true_eq] at hb
  split at h
  case h_2 => cases h
  rename_i x y z hks
  cases h
  have ha := wp.a
  have e : p.a = Tm.mk 10 p.i p.a.j p.a.n [x, y, z] := by rw [← hks, ← hb.2.1, ← hb.2.2, Tm.eta]
  rw [e] at ha
  obtain ⟨g1, g2, g3⟩ := wl_eqt.1 ha
  exact ⟨g2.1, g2.2, g1.1, g1.2, fun _ => g3⟩
theorem s18_wl {K : Int} {G : List Int} (hK : 0 ≤ K) (hK1 : K ≤ 900) {p : Jd} {q : Jd} (wp : WJ G p) (hp : Pr K p) (sp : jsz p ≤ 1002) (wq : WJ (p.i :: G) q) (hq : Pr (K + 1) q) (sq : jsz q ≤ 1002) {J : Jd} (h : s18 p q = some J) : WJ G J := by
  unfold jsz at sp sq
  obtain ⟨hb, rfl⟩ := ifs h
  simp only [Bool.and_eq_true, Bool.not_eq_true', decide_eq_true_eq] at hb
  have lp := wp.lu; have := wp.la; have := wq.lu; have := wq.la
  obtain ⟨p1, p2⟩ := put_wl (l := p.i) hK (by omega) hq.u hp.u (by omega) (by omega) wq.u wp.u lp
  obtain ⟨p3, p4⟩ := put_wl (l := p.i) hK (by omega) hq.a hp.u (by omega) (by omega) wq.a wp.u lp
  have hl : wl G (Tm.mk 4 p.i q.i 0 [p.a, q.a, q.u]) := wl_lam.2 ⟨⟨wp.a, wp.la⟩, ⟨wq.a, wq.la⟩, ⟨wq.u, wq.lu⟩⟩
  exact ⟨wl_app.2 ⟨⟨wp.a, wp.la⟩, ⟨wq.a, wq.la⟩, ⟨hl, lvl4 _ _ _ _ _⟩, ⟨wp.u, wp.lu⟩⟩, lvl5 _ _ _ _ _, p3, by rw [p4]; exact wq.la, fun _ => ⟨p1, by rw [p2]; exact wq.lu⟩⟩
theorem s19_wl {K : Int} {G : List Int} (hK : 0 ≤ K) (hK1 : K ≤ 900) {p : Jd} {q : Jd} {s : Jd} (wp : WJ G p) (hp : Pr K p) (sp : jsz p ≤ 1002) (wq : WJ (p.i :: G) q) (hq : Pr (K + 1) q) (sq : jsz q ≤ 1002) (ws : WJ G s) (hs : Pr K s) (ss : jsz s ≤ 1002) {J : Jd} (h : s19 p q s = some J) : WJ G J := by
  unfold jsz at sp sq ss
  unfold s19 at h
  split at h
  case h_2 => cases h
  rename_i f t hf
  cases h
  obtain ⟨g1, g2, g3, g4, g5, g6, g7⟩ := pairS_wl hf wp wq ws
  have lp := wp.lu
  exact ⟨(wl_prj (.inl rfl)).2 ⟨g1, g2, ⟨g3, g4⟩⟩, lvl8 _ _ _ _ _, g1.1, g1.2, fun _ => ⟨wp.u, by show lvl G p.u = f.i; omega⟩⟩
theorem s20_wl {K : Int} {G : List Int} (hK : 0 ≤ K) (hK1 : K ≤ 900) {p : Jd} {q : Jd} {s : Jd} (wp : WJ G p) (hp : Pr K p) (sp : jsz p ≤ 1002) (wq : WJ (p.i :: G) q) (hq : Pr (K + 1) q) (sq : jsz q ≤ 1002) (ws : WJ G s) (hs : Pr K s) (ss : jsz s ≤ 1002) {J : Jd} (h : s20 p q s = some J) : WJ G J := by
  unfold jsz at sp sq ss
  unfold s20 at h
  split at h
  case h_2 => cases h
  rename_i f t hf
  cases h
  obtain ⟨g1, g2, g3, g4, g5, g6, g7⟩ := pairS_wl hf wp wq ws
  have lp := wp.lu
  have ls := ws.lu
  obtain ⟨p1, p2⟩ := put_wl (b := f.b) (u := p.u) (l := f.i) hK (by omega) (by rw [g6]; exact hq.u) hp.u (by rw [g6]; omega) (by omega) g2.1 wp.u (by omega)
  exact ⟨(wl_prj (.inr rfl)).2 ⟨g1, g2, ⟨g3, g4⟩⟩, lvl9 _ _ _ _ _, p1, by rw [p2]; exact g2.2, fun _ => ⟨ws.u, by show lvl G s.u = f.j; omega⟩⟩
theorem s21_wl {K : Int} {G : List Int} (hK : 0 ≤ K) (hK1 : K ≤ 900) {p : Jd} (wp : WJ G p) (hp : Pr K p) (sp : jsz p ≤ 1002) {J : Jd} (h : s21 p = some J) : WJ G J := by
  unfold jsz at sp
  unfold s21 at h
  split at h
  case h_2 => cases h
  rename_i f hf
  have hw := famS_wl (.inl rfl) hf wp
  have hq := famS_pf (.inl rfl) hf hp
  obtain ⟨f1, f2, f3⟩ := famS_of hf
  have lp := wp.lu
  cases h
  have e1 : ((1 : Nat) : Int) = 1 := rfl
  have u1 := up_wl [f.i] G f.a [] 0 rfl hw.1.1
  have u2 := up_wl [f.i] G f.b [f.i] 1 rfl hw.2.1
  have u3 := up_wl [f.i] G p.u [] 0 rfl wp.u
  simp only [List.length_cons, List.length_nil, List.nil_append, List.singleton_append, Nat.zero_add, e1] at u1 u2 u3
  have hv : wl (f.i :: G) (Tm.mk 2 0 0 0 []) ∧ lvl (f.i :: G) (Tm.mk 2 0 0 0 []) = f.i := ⟨by simp [wl], by rw [lvl_2 _ rfl]; rfl⟩
  have happ : wl (f.i :: G) (Tm.mk 5 f.i f.j 0 [Tm.up 1 0 f.a, Tm.up 1 1 f.b, Tm.up 1 0 p.u, Tm.mk 2 0 0 0 []]) := wl_app.2 ⟨⟨u1.1, by rw [u1.2]; exact hw.1.2⟩, ⟨u2.1, by rw [u2.2]; exact hw.2.2⟩, ⟨u3.1, by rw [u3.2]; omega⟩, hv⟩
  exact ⟨wp.u, by show lvl G p.u = max f.i f.j; omega, (wl_pi (.inl rfl)).2 ⟨hw.1, hw.2⟩, lvl3 _ _ _ _ _, fun _ => ⟨wl_lam.2 ⟨hw.1, hw.2, ⟨happ, lvl5 _ _ _ _ _⟩⟩, lvl4 _ _ _ _ _⟩⟩
theorem s22_wl {K : Int} {G : List Int} (hK : 0 ≤ K) (hK1 : K ≤ 900) {p : Jd} (wp : WJ G p) (hp : Pr K p) (sp : jsz p ≤ 1002) {J : Jd} (h : s22 p = some J) : WJ G J := by
  unfold jsz at sp
  unfold s22 at h
  split at h
  case h_2 => cases h
  rename_i f hf
  have hw := famS_wl (.inr rfl) hf wp
  have hq := famS_pf (.inr rfl) hf hp
  obtain ⟨f1, f2, f3⟩ := famS_of hf
  have lp := wp.lu
  cases h
  have h8 : wl G (Tm.mk 8 f.i f.j 0 [f.a, f.b, p.u]) := (wl_prj (.inl rfl)).2 ⟨hw.1, hw.2, ⟨wp.u, by omega⟩⟩
  have h9 : wl G (Tm.mk 9 f.i f.j 0 [f.a, f.b, p.u]) := (wl_prj (.inr rfl)).2 ⟨hw.1, hw.2, ⟨wp.u, by omega⟩⟩
  exact ⟨wp.u, by show lvl G p.u = max f.i f.j; omega, (wl_pi (.inr rfl)).2 ⟨hw.1, hw.2⟩, lvl6 _ _ _ _ _, fun _ => ⟨wl_pair.2 ⟨hw.1, hw.2, ⟨h8, lvl8 _ _ _ _ _⟩, ⟨h9, lvl9 _ _ _ _ _⟩⟩, lvl7 _ _ _ _ _⟩⟩
theorem s23_wl {K : Int} {G : List Int} (hK : 0 ≤ K) (hK1 : K ≤ 900) {p : Jd} {q : Jd} (wp : WJ G p) (hp : Pr K p) (sp : jsz p ≤ 1002) (wq : WJ (p.i :: G) q) (hq : Pr (K + 1) q) (sq : jsz q ≤ 1002) {J : Jd} (h : s23 p q = some J) : WJ G J := by
  unfold jsz at sp sq
  obtain ⟨hb, rfl⟩ := ifs h
  simp only [Bool.and_eq_true, Bool.not_eq_true', decide_eq_true_eq] at hb
  have lp := wp.lu
  obtain ⟨v1, v2⟩ := wp.v hb.1
  obtain ⟨p1, p2⟩ := put_wl (l := p.i) hK (by omega) hq.u hp.u (by omega) (by omega) wq.u wp.u lp
  obtain ⟨p3, p4⟩ := put_wl (l := p.i) hK (by omega) hq.u (hp.v hb.1) (by omega) (by omega) wq.u v1 v2
  obtain ⟨p5, p6⟩ := put_wl (l := p.i) hK (by omega) hq.a hp.u (by omega) (by omega) wq.a wp.u lp
  exact ⟨p1, by rw [p2]; exact wq.lu, p5, by rw [p6]; exact wq.la, fun _ => ⟨p3, by rw [p4]; exact wq.lu⟩⟩
theorem s24_wl {K : Int} {G : List Int} (hK : 0 ≤ K) (hK1 : K ≤ 900) {p : Jd} {q : Jd} (wp : WJ G p) (hp : Pr K p) (sp : jsz p ≤ 1002) (wq : WJ G q) (hq : Pr K q) (sq : jsz q ≤ 1002) {J : Jd} (h : s24 p q = some J) : WJ G J := by
  unfold jsz at sp sq
  obtain ⟨hb, rfl⟩ := ifs h
  simp only [Bool.and_eq_true, Bool.not_eq_true', decide_eq_true_eq] at hb
  obtain ⟨b1, b2, b3⟩ := hasB_of hb.2.2.2
  have := wq.lu
  exact ⟨wp.u, wp.lu, wp.a, wp.la, fun _ => ⟨wq.u, by show lvl G q.u = p.i; omega⟩⟩
theorem s25_wl {K : Int} {G : List Int} (hK : 0 ≤ K) (hK1 : K ≤ 900) {p : Jd} {q : Jd} (wp : WJ G p) (hp : Pr K p) (sp : jsz p ≤ 1002) (wq : WJ (p.a.i :: G) q) (hq : Pr (K + 1) q) (sq : jsz q ≤ 1002) {J : Jd} (h : s25 3 p q = some J) : WJ G J := by
  unfold jsz at sp sq
  obtain ⟨hb, rfl⟩ := ifs h
  simp only [Bool.and_eq_true, Bool.not_eq_true', decide_eq_true_eq] at hb
  obtain ⟨a1, a2, a3⟩ := typedB_of hb.1
  obtain ⟨b1, b2, b3⟩ := typedB_of hb.2
  obtain ⟨pv1, pv2⟩ := wp.v a1
  obtain ⟨qv1, qv2⟩ := wq.v b1
  have := wp.lu; have := wq.lu
  exact ⟨(wl_pi (.inl rfl)).2 ⟨⟨wp.u, by omega⟩, ⟨wq.u, by omega⟩⟩, lvl3 _ _ _ _ _, wl_sort _ _ _ _, by rw [lvl1]; show _ = max p.a.i q.a.i + 1 + 1; omega, fun _ => ⟨(wl_pi (.inl rfl)).2 ⟨⟨pv1, by omega⟩, ⟨qv1, by omega⟩⟩, lvl3 _ _ _ _ _⟩⟩
theorem s26_wl {K : Int} {G : List Int} (hK : 0 ≤ K) (hK1 : K ≤ 900) {p : Jd} {q : Jd} (wp : WJ G p) (hp : Pr K p) (sp : jsz p ≤ 1002) (wq : WJ (p.a.i :: G) q) (hq : Pr (K + 1) q) (sq : jsz q ≤ 1002) {J : Jd} (h : s25 6 p q = some J) : WJ G J := by
  unfold jsz at sp sq
  obtain ⟨hb, rfl⟩ := ifs h
  simp only [Bool.and_eq_true, Bool.not_eq_true', decide_eq_true_eq] at hb
  obtain ⟨a1, a2, a3⟩ := typedB_of hb.1
  obtain ⟨b1, b2, b3⟩ := typedB_of hb.2
  obtain ⟨pv1, pv2⟩ := wp.v a1
  obtain ⟨qv1, qv2⟩ := wq.v b1
  have := wp.lu; have := wq.lu
  exact ⟨(wl_pi (.inr rfl)).2 ⟨⟨wp.u, by omega⟩, ⟨wq.u, by omega⟩⟩, lvl6 _ _ _ _ _, wl_sort _ _ _ _, by rw [lvl1]; show _ = max p.a.i q.a.i + 1 + 1; omega, fun _ => ⟨(wl_pi (.inr rfl)).2 ⟨⟨pv1, by omega⟩, ⟨qv1, by omega⟩⟩, lvl6 _ _ _ _ _⟩⟩
theorem s27_wl {K : Int} {G : List Int} (hK : 0 ≤ K) (hK1 : K ≤ 900) {p : Jd} {q : Jd} {s : Jd} (wp : WJ G p) (hp : Pr K p) (sp : jsz p ≤ 1002) (wq : WJ (p.a.i :: G) q) (hq : Pr (K + 1) q) (sq : jsz q ≤ 1002) (ws : WJ (p.a.i :: G) s) (hs : Pr (K + 1) s) (ss : jsz s ≤ 1002) {J : Jd} (h : s27 p q s = some J) : WJ G J := by
  unfold jsz at sp sq ss
  obtain ⟨hb, rfl⟩ := ifs h
  simp only [Bool.and_eq_true, Bool.not_eq_true', decide_eq_true_eq] at hb
  obtain ⟨a1, a2, a3⟩ := typedB_of hb.1
  obtain ⟨b1, b2, b3⟩ := typedB_of hb.2.1
  obtain ⟨pv1, pv2⟩ := wp.v a1
  obtain ⟨qv1, qv2⟩ := wq.v b1
  have := wp.lu; have := wq.lu
  obtain ⟨c1, c2, c3⟩ := hasB_of hb.2.2
  obtain ⟨sv1, sv2⟩ := ws.v c1
  have := ws.lu
  exact ⟨wl_lam.2 ⟨⟨wp.u, by omega⟩, ⟨wq.u, by omega⟩, ⟨ws.u, by omega⟩⟩, lvl4 _ _ _ _ _, (wl_pi (.inl rfl)).2 ⟨⟨wp.u, by omega⟩, ⟨wq.u, by omega⟩⟩, lvl3 _ _ _ _ _, fun _ => ⟨wl_lam.2 ⟨⟨pv1, by omega⟩, ⟨qv1, by omega⟩, ⟨sv1, by omega⟩⟩, lvl4 _ _ _ _ _⟩⟩
theorem s28_wl {K : Int} {G : List Int} (hK : 0 ≤ K) (hK1 : K ≤ 900) {p : Jd} {q : Jd} {s : Jd} {t : Jd} (wp : WJ G p) (hp : Pr K p) (sp : jsz p ≤ 1002) (wq : WJ (p.a.i :: G) q) (hq : Pr (K + 1) q) (sq : jsz q ≤ 1002) (ws : WJ G s) (hs : Pr K s) (ss : jsz s ≤ 1002) (wt : WJ G t) (ht : Pr K t) (st : jsz t ≤ 1002) {J : Jd} (h : s28 p q s t = some J) : WJ G J := by
  unfold jsz at sp sq ss st
  obtain ⟨hb, rfl⟩ := ifs h
  simp only [Bool.and_eq_true, Bool.not_eq_true', decide_eq_true_eq] at hb
  obtain ⟨a1, a2, a3⟩ := typedB_of hb.1
  obtain ⟨b1, b2, b3⟩ := typedB_of hb.2.1
  obtain ⟨pv1, pv2⟩ := wp.v a1
  obtain ⟨qv1, qv2⟩ := wq.v b1
  have := wp.lu; have := wq.lu
  obtain ⟨c1, c2, c3⟩ := hasB_of hb.2.2.1
  obtain ⟨d1, d2, d3⟩ := hasB_of hb.2.2.2
  have := ws.lu; have := wt.lu
  exact ⟨wl_pair.2 ⟨⟨wp.u, by omega⟩, ⟨wq.u, by omega⟩, ⟨ws.u, by omega⟩, ⟨wt.u, by omega⟩⟩, lvl7 _ _ _ _ _, (wl_pi (.inr rfl)).2 ⟨⟨wp.u, by omega⟩, ⟨wq.u, by omega⟩⟩, lvl6 _ _ _ _ _, fun _ => ⟨wl_pair.2 ⟨⟨pv1, by omega⟩, ⟨qv1, by omega⟩, ⟨ws.u, by omega⟩, ⟨wt.u, by omega⟩⟩, lvl7 _ _ _ _ _⟩⟩
end Go.Proofs.Ytcaahmielncmpaa
