/-
  Plain facts on what the functions compute.
-/
import Derived.Test.YtcaahmielncmpaaRuJ
set_option linter.unusedSimpArgs false
set_option linter.unusedVariables false
namespace Go.Proofs.Ytcaahmielncmpaa
open Go
set_option maxRecDepth 20000

/-! ## Levels -/
def lvG (G : List Int) (i : Int) : Int := G.getD i.toNat 0
/-- The level of a term, by its head. -/
def lvl (G : List Int) (t : Tm) : Int :=
  if t.kind = 1 then t.i + 2 else if t.kind = 2 then lvG G t.i else if t.kind = 3 ∨ t.kind = 6 then max t.i t.j + 1 else if t.kind = 4 ∨ t.kind = 7 then max t.i t.j
  else if t.kind = 5 ∨ t.kind = 9 then t.j else if t.kind = 10 then t.i + 1 else t.i
/-- The level that a kid has. -/
def req (k i j : Int) (idx : Nat) : Int :=
  if idx = 0 then i + 1 else if idx = 1 then (if k = 10 ∨ k = 11 then i else j + 1) else if idx = 2 then (if k = 4 then j else if k = 7 ∨ k = 10 then i else max i j) else (if k = 7 then j else i)
def ext (G : List Int) (k i : Int) (idx : Nat) : List Int := if tbinds k (idx : Int) = 0 then G else i :: G
mutual
def wl : List Int → Tm → Prop
  | G, .mk k i j _ ks => 1 ≤ k ∧ k ≤ 11 ∧ if k = 2 then (0 ≤ i ∧ i < (G.length : Int)) else wls G k i j 0 ks
def wls : List Int → Int → Int → Int → Nat → List Tm → Prop
  | _, _, _, _, _, [] => True
  | G, k, i, j, idx, x :: xs => (wl (ext G k i idx) x ∧ lvl (ext G k i idx) x = req k i j idx) ∧ wls G k i j (idx + 1) xs
end
theorem lvl_mk (G : List Int) (k i j n : Int) (ks : List Tm) : lvl G (.mk k i j n ks) = (if k = 1 then i + 2 else if k = 2 then lvG G i else if k = 3 ∨ k = 6 then max i j + 1 else if k = 4 ∨ k = 7 then max i j
  else if k = 5 ∨ k = 9 then j else if k = 10 then i + 1 else i) := rfl
theorem lvl_2 (G : List Int) {k : Int} (h : k = 2) (i j n : Int) (ks : List Tm) : lvl G (.mk k i j n ks) = lvG G i := by rw [lvl_mk, if_neg (by omega), if_pos h]
theorem lvl_n (G G' : List Int) {k : Int} (h : k ≠ 2) (i j n n' : Int) (ks ks' : List Tm) : lvl G (.mk k i j n ks) = lvl G' (.mk k i j n' ks') := by
  rw [lvl_mk, lvl_mk]
  by_cases h1 : k = 1
  · rw [if_pos h1, if_pos h1]
  · rw [if_neg h1, if_neg h, if_neg h1, if_neg h]
theorem tbinds01 {k : Int} (h1 : 1 ≤ k) (h2 : k ≤ 11) (i : Int) : tbinds k i = 0 ∨ tbinds k i = 1 := by
  unfold tbinds
  split
  · split <;> simp
  · split
    · split <;> simp
    · rw [if_neg (by omega)]; simp
theorem lvG_up {G1 D G2 : List Int} {i : Int} (h0 : 0 ≤ i) : lvG (G1 ++ (D ++ G2)) (if (G1.length : Int) ≤ i then i + D.length else i) = lvG (G1 ++ G2) i := by
  unfold lvG
  rw [List.getD_eq_getElem?_getD, List.getD_eq_getElem?_getD]
  by_cases h : (G1.length : Int) ≤ i
  · rw [if_pos h, List.getElem?_append_right (by omega), List.getElem?_append_right (by omega), List.getElem?_append_right (by omega)]
    congr 2
    omega
  · rw [if_neg h, List.getElem?_append_left (by omega), List.getElem?_append_left (by omega)]
theorem ext_app {G1 G2 : List Int} {k i : Int} {idx : Nat} : ext (G1 ++ G2) k i idx = (ext G1 k i idx) ++ G2 := by
  unfold ext
  split <;> rfl
theorem ext_len {G : List Int} {k i : Int} {idx : Nat} (h1 : 1 ≤ k) (h2 : k ≤ 11) : ((ext G k i idx).length : Int) = (G.length : Int) + tbinds k (idx : Int) := by
  unfold ext
  rcases tbinds01 h1 h2 (idx : Int) with h | h
  · rw [if_pos h, h]; simp
  · rw [if_neg (by omega), h]; simp
mutual
theorem up_wl (D G2 : List Int) : ∀ (t : Tm) (G1 : List Int) (f : Int), f = (G1.length : Int) → wl (G1 ++ G2) t → wl (G1 ++ (D ++ G2)) (Tm.up (D.length : Int) f t) ∧ lvl (G1 ++ (D ++ G2)) (Tm.up (D.length : Int) f t) = lvl (G1 ++ G2) t
  | .mk k i j n ks, G1, f, hf, h => by
    simp only [wl] at h
    obtain ⟨h1, h2, h3⟩ := h
    simp only [Tm.up]
    by_cases hk : k = 2
    · rw [if_pos hk] at h3 ⊢
      rw [hf]
      refine ⟨?_, ?_⟩
      · simp only [wl]
        rw [if_pos hk]
        simp only [List.length_append, Int.natCast_add] at h3 ⊢
        refine ⟨h1, h2, ?_⟩
        by_cases hfi : (G1.length : Int) ≤ i
        · rw [if_pos hfi]; omega
        · rw [if_neg hfi]; omega
      · rw [lvl_2 _ hk, lvl_2 _ hk]
        exact lvG_up h3.1
    · rw [if_neg hk] at h3 ⊢
      refine ⟨?_, ?_⟩
      · simp only [wl]
        rw [if_neg hk]
        exact ⟨h1, h2, ups_wl D G2 ks G1 f hf k i j 0 h1 h2 h3⟩
      · exact lvl_n _ _ hk _ _ _ _ _ _
theorem ups_wl (D G2 : List Int) : ∀ (ks : List Tm) (G1 : List Int) (f : Int), f = (G1.length : Int) → ∀ (k i j : Int) (idx : Nat), 1 ≤ k → k ≤ 11 → wls (G1 ++ G2) k i j idx ks → wls (G1 ++ (D ++ G2)) k i j idx (Tm.ups (D.length : Int) k f idx ks)
  | [], _, _, _, _, _, _, _, _, _, _ => by simp only [Tm.ups, wls]
  | x :: xs, G1, f, hf, k, i, j, idx, h1, h2, h => by
    simp only [wls] at h
    simp only [Tm.ups, wls]
    rw [ext_app] at h ⊢
    obtain ⟨g1, g2⟩ := up_wl D G2 x (ext G1 k i idx) (f + tbinds k (idx : Int)) (by rw [ext_len h1 h2, hf]) h.1.1
    exact ⟨⟨g1, by rw [g2]; exact h.1.2⟩, ups_wl D G2 xs G1 f hf k i j (idx + 1) h1 h2 h.2⟩
end
theorem lvG_put {G1 G2 : List Int} {l : Int} {i : Int} (h0 : 0 ≤ i) (h : i ≠ (G1.length : Int)) : lvG (G1 ++ G2) (if (G1.length : Int) ≤ i then i - 1 else i) = lvG (G1 ++ (l :: G2)) i := by
  unfold lvG
  rw [List.getD_eq_getElem?_getD, List.getD_eq_getElem?_getD]
  by_cases hh : (G1.length : Int) ≤ i
  · rw [if_pos hh, List.getElem?_append_right (by omega), List.getElem?_append_right (by omega)]
    have : i.toNat - G1.length = (i.toNat - G1.length - 1) + 1 := by omega
    rw [this, List.getElem?_cons_succ]
    congr 2
    omega
  · rw [if_neg hh, List.getElem?_append_left (by omega), List.getElem?_append_left (by omega)]
theorem mode_no {k : Int} (h : k ≤ 11) (i : Int) : mode false k i = false := by
  simp only [mode, Bool.false_or, Bool.and_eq_false_iff, decide_eq_false_iff_not]
  omega
mutual
theorem sb_wl (u : Tm) (l : Int) (G2 : List Int) (hu : wl G2 u) (hl : lvl G2 u = l) : ∀ (t : Tm) (G1 : List Int) (d : Int), d = (G1.length : Int) → wl (G1 ++ (l :: G2)) t → wl (G1 ++ G2) (Tm.sb (one u) d false t) ∧ lvl (G1 ++ G2) (Tm.sb (one u) d false t) = lvl (G1 ++ (l :: G2)) t
  | .mk k i j n ks, G1, d, hd, h => by
    simp only [wl] at h
    obtain ⟨h1, h2, h3⟩ := h
    simp only [Tm.sb]
    by_cases hk : k = 2
    · rw [if_pos hk] at h3
      have lv2 : ∀ (G : List Int) (a b c : Int) (l : List Tm), lvl G (.mk k a b c l) = lvG G a := fun G a b c l => lvl_2 G hk a b c l
      have wl2 : ∀ (G : List Int) (a b c : Int) (l : List Tm), wl G (.mk k a b c l) ↔ (0 ≤ a ∧ a < (G.length : Int)) := fun G a b c l => by
        simp only [wl]
        rw [if_pos hk]
        constructor
        · intro h; exact h.2.2
        · intro h; exact ⟨h1, h2, h⟩
      by_cases hdi : d ≤ i
      · rw [if_pos ⟨hk, hdi⟩]
        by_cases e : i = d
        · rw [show (i - d).toNat = 0 by omega]
          have e1 : one u false 0 = u := rfl
          rw [e1]
          obtain ⟨g1, g2⟩ := up_wl G1 G2 u [] 0 rfl hu
          rw [← hd] at g1 g2
          refine ⟨g1, ?_⟩
          simp only [List.nil_append] at g2
          rw [g2, hl, lv2]
          unfold lvG
          rw [List.getD_eq_getElem?_getD, List.getElem?_append_right (by omega), show i.toNat - G1.length = 0 by omega]
          rfl
        · obtain ⟨a, ha⟩ : ∃ a : Nat, (i - d).toNat = a + 1 := ⟨(i - d).toNat - 1, by omega⟩
          rw [ha]
          have e1 : one u false (a + 1) = Tm.mk 2 (a : Int) 0 0 [] := rfl
          rw [e1]
          have e2 : Tm.up d 0 (Tm.mk 2 (a : Int) 0 0 []) = Tm.mk k (i - 1) 0 0 [] := by
            simp only [Tm.up, if_true]
            rw [if_pos (by omega), hk]
            congr 1
            omega
          rw [e2]
          refine ⟨(wl2 _ _ _ _ _).2 ?_, ?_⟩
          · simp only [List.length_append, List.length_cons] at h3 ⊢
            omega
          · rw [lv2, lv2]
            have := lvG_put (G1 := G1) (G2 := G2) (l := l) h3.1 (by omega)
            rw [if_pos (by omega)] at this
            exact this
      · rw [if_neg (fun h => hdi h.2)]
        have hs : Tm.mk k i j n (Tm.sbs (one u) k d false 0 ks) = Tm.mk k i j n (Tm.sbs (one u) k d false 0 ks) := rfl
        refine ⟨(wl2 _ _ _ _ _).2 ?_, ?_⟩
        · simp only [List.length_append, List.length_cons] at h3 ⊢
          omega
        · rw [lv2, lv2]
          have := lvG_put (G1 := G1) (G2 := G2) (l := l) h3.1 (by omega)
          rw [if_neg (by omega)] at this
          exact this
    · rw [if_neg hk] at h3
      rw [if_neg (fun h => hk h.1)]
      refine ⟨?_, ?_⟩
      · simp only [wl]
        rw [if_neg hk]
        exact ⟨h1, h2, sbs_wl u l G2 hu hl ks G1 d hd k i j 0 h1 h2 h3⟩
      · exact lvl_n _ _ hk _ _ _ _ _ _
theorem sbs_wl (u : Tm) (l : Int) (G2 : List Int) (hu : wl G2 u) (hl : lvl G2 u = l) : ∀ (ks : List Tm) (G1 : List Int) (d : Int), d = (G1.length : Int) → ∀ (k i j : Int) (idx : Nat), 1 ≤ k → k ≤ 11 → wls (G1 ++ (l :: G2)) k i j idx ks → wls (G1 ++ G2) k i j idx (Tm.sbs (one u) k d false idx ks)
  | [], _, _, _, _, _, _, _, _, _, _ => by simp only [Tm.sbs, wls]
  | x :: xs, G1, d, hd, k, i, j, idx, h1, h2, h => by
    simp only [wls] at h
    simp only [Tm.sbs, wls]
    rw [ext_app] at h ⊢
    rw [mode_no h2]
    obtain ⟨g1, g2⟩ := sb_wl u l G2 hu hl x (ext G1 k i idx) (d + tbinds k (idx : Int)) (by rw [ext_len h1 h2, hd]) h.1.1
    exact ⟨⟨g1, by rw [g2]; exact h.1.2⟩, sbs_wl u l G2 hu hl xs G1 d hd k i j (idx + 1) h1 h2 h.2⟩
end
theorem putZ_pf {K : Int} {b u : Tm} (hK0 : 0 ≤ K) (hK : K ≤ 1000) (hb : pf (K + 1) b = true) (hu : pf K u = true) (hsb : b.size ≤ 100000) (hsu : u.size ≤ 100000) : b.putZ u = Tm.sb (one u) 0 false b := by
  obtain ⟨b1, b2, b3⟩ := pf_of hb
  obtain ⟨u1, u2, u3⟩ := pf_of hu
  have hr2 := marked_right u1
  have hok : b.kind = 1 ∨ b.kind = 2 ∨ b.plain = true ∨ u.marked = true := .inr (.inr (.inr u1))
  have hk := marked_kind b1
  rw [Tm.putZ_sb b u (marked_right b1) (okv_of hr2 hok) (by omega), decide_eq_false (by omega)]
theorem put_wl {K : Int} {b u : Tm} {l : Int} {G : List Int} (hK0 : 0 ≤ K) (hK : K ≤ 1000) (hb : pf (K + 1) b = true) (hu : pf K u = true) (hsb : b.size ≤ 100000) (hsu : u.size ≤ 100000) (h1 : wl (l :: G) b) (h2 : wl G u) (h3 : lvl G u = l) :
    wl G (b.putZ u) ∧ lvl G (b.putZ u) = lvl (l :: G) b := by
  rw [putZ_pf hK0 hK hb hu hsb hsu]
  exact sb_wl u l G h2 h3 b [] 0 rfl h1
end Go.Proofs.Ytcaahmielncmpaa
