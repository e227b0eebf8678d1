/-
  Plain facts on what the functions compute.
-/
import Derived.Test.YtcaahmielncmpaaLvB
import Derived.Test.YtcaahmielncmpaaChA
set_option linter.unusedSimpArgs false
set_option linter.unusedVariables false
namespace Go.Proofs.Ytcaahmielncmpaa
open Go
set_option maxRecDepth 20000

/-! ## Levels of what is judged -/
def WCr : List Ent → Prop
  | [] => True
  | e :: r => (wl (r.map Ent.i) e.a ∧ lvl (r.map Ent.i) e.a = e.i + 1) ∧ WCr r
def WC (c : List Ent) : Prop := WCr c.reverse
def lvs (c : List Ent) : List Int := c.reverse.map Ent.i
theorem lvs_add (c : List Ent) (e : Ent) : lvs (c ++ [e]) = e.i :: lvs c := by unfold lvs; simp
theorem WC_add {c : List Ent} {e : Ent} (h : WC c) (h1 : wl (lvs c) e.a) (h2 : lvl (lvs c) e.a = e.i + 1) : WC (c ++ [e]) := by
  unfold WC
  rw [List.reverse_append, List.reverse_singleton, List.singleton_append]
  exact ⟨⟨h1, h2⟩, h⟩
theorem WCr_get : ∀ {R : List Ent} {k : Nat} {e : Ent}, WCr R → R[k]? = some e → wl ((R.drop (k + 1)).map Ent.i) e.a ∧ lvl ((R.drop (k + 1)).map Ent.i) e.a = e.i + 1
  | [], k, e, _, h => by simp at h
  | x :: R, 0, e, h, he => by
    simp at he
    subst he
    exact h.1
  | x :: R, k + 1, e, h, he => by
    have := WCr_get (R := R) (k := k) h.2 (by simpa using he)
    simpa using this
theorem s2_wl {c : List Ent} {k : Int} {J : Jd} (hc : pureC c = true) (hl : c.length ≤ 900) (hs : ∀ e ∈ c, e.a.size ≤ 1002) (hW : WC c) (h : s2 c k = some J) : WJ (lvs c) J := by
  obtain ⟨hb, rfl⟩ := ifs h
  unfold atC at hb ⊢
  by_cases hh : k < 0 ∨ (c.length : Int) ≤ k ∨ rightC 0 c = false
  · rw [if_pos hh] at hb; cases hb
  rw [if_neg hh] at hb ⊢
  have hlt : ((c.length : Int) - 1 - k).toNat < c.length := by omega
  have hget := List.getElem?_eq_getElem hlt
  have hm := List.mem_of_getElem? hget
  have hsz := hs _ hm
  have hrev : c.reverse[k.toNat]? = c[((c.length : Int) - 1 - k).toNat]? := by
    rw [List.getElem?_reverse (by omega)]
    congr 1
    omega
  rw [hget] at hrev ⊢
  unfold pureC at hc
  rw [Bool.and_eq_true] at hc
  have hr := rightC_get hc.1 hget
  have hp := puresC_mem hc.2 hm
  generalize c[((c.length : Int) - 1 - k).toNat] = e at *
  have hmk := pure_marked hp
  have hd := Tm.deep_size e.a
  have hf : e.a.free ≤ (((c.length : Int) - 1 - k).toNat : Int) := by have := hr.2.2; omega
  have hroom : e.a.room (k + 1) := by unfold Tm.room; omega
  have e1 : Tm.liftZ (k + 1) 0 e.a = Tm.up (k + 1) 0 e.a := liftZ_up (k + 1) 0 e.a (by omega) (by omega) (marked_right hmk) hroom
  obtain ⟨g1, g2⟩ := WCr_get hW hrev
  have hsplit : lvs c = (c.reverse.take (k.toNat + 1)).map Ent.i ++ (c.reverse.drop (k.toNat + 1)).map Ent.i := by
    unfold lvs
    rw [← List.map_append, List.take_append_drop]
  have hlen : (((c.reverse.take (k.toNat + 1)).map Ent.i).length : Int) = k + 1 := by
    rw [List.length_map, List.length_take, List.length_reverse]; omega
  obtain ⟨u1, u2⟩ := up_wl ((c.reverse.take (k.toNat + 1)).map Ent.i) ((c.reverse.drop (k.toNat + 1)).map Ent.i) e.a [] 0 rfl g1
  rw [hlen] at u1 u2
  simp only [List.nil_append] at u1 u2
  rw [← hsplit] at u1 u2
  have hvi : lvG (lvs c) k = e.i := by
    unfold lvG lvs
    rw [List.getD_eq_getElem?_getD, List.getElem?_map, hrev]; rfl
  dsimp only
  rw [e1]
  refine ⟨?_, by rw [lvl_2 _ rfl]; exact hvi, u1, by rw [u2, g2], fun h => by cases h⟩
  simp only [wl, if_true]
  refine ⟨by omega, by omega, by omega, ?_⟩
  unfold lvs
  simp only [List.length_map, List.length_reverse]
  omega
theorem concl_wl {c : List Ent} {r k : Int} {js : List Jd} (hl : c.length ≤ 900) (hs : ∀ e ∈ c, e.a.size ≤ 1002) (hsz : ∀ j ∈ js, jsz j ≤ 1002) (ho : ofOk c r js = true) (hW : WC c)
    (hj : ∀ (idx : Nat) (j : Jd), js[idx]? = some j → WJ (if rinner r (idx : Int) = true then (entryJ r (js.headD zeroJ)).1.i :: lvs c else lvs c) j) {J : Jd} (h : concl c r k js = some J) : WJ (lvs c) J := by
  obtain ⟨hc, hk, hpr⟩ := ofOk_of ho
  have hK : (0 : Int) ≤ (c.length : Int) := by omega
  have hK1 : (c.length : Int) ≤ 900 := by omega
  have hr : 1 ≤ r ∧ r ≤ 28 := by
    by_cases h : r < 1 ∨ 28 < r
    · rw [rkids_out h] at hk; omega
    · omega
  have hr' : r = 1 ∨ r = 2 ∨ r = 3 ∨ r = 4 ∨ r = 5 ∨ r = 6 ∨ r = 7 ∨ r = 8 ∨ r = 9 ∨ r = 10 ∨ r = 11 ∨ r = 12 ∨ r = 13 ∨ r = 14 ∨ r = 15 ∨ r = 16 ∨ r = 17 ∨ r = 18 ∨ r = 19 ∨ r = 20 ∨ r = 21 ∨ r = 22 ∨ r = 23 ∨ r = 24 ∨ r = 25 ∨ r = 26 ∨ r = 27 ∨ r = 28 := by omega
  rcases hr' with rfl | rfl | rfl | rfl | rfl | rfl | rfl | rfl | rfl | rfl | rfl | rfl | rfl | rfl | rfl | rfl | rfl | rfl | rfl | rfl | rfl | rfl | rfl | rfl | rfl | rfl | rfl | rfl
  · have hr2 : rkids 1 = 0 := by decide
    have hl2 : js.length = 0 := by omega
    match js, hl2 with
    | [], _ =>
      have h : s1 k = some J := h
      unfold s1 at h
      split at h
      · rename_i hk9
        cases h
        exact ⟨wl_sort _ _ _ _, lvl1 _ _ _ _ _, wl_sort _ _ _ _, by rw [lvl1]; show k + 1 + 2 = k + 2 + 1; omega, fun h => by cases h⟩
      · cases h
  · have hr2 : rkids 2 = 0 := by decide
    have hl2 : js.length = 0 := by omega
    match js, hl2 with
    | [], _ =>
      exact s2_wl hc hl hs hW h
  · have hr2 : rkids 3 = 2 := by decide
    have hl2 : js.length = 2 := by omega
    match js, hl2 with
    | [p, q], _ =>
      have hp := rightJ_Pr ((prem_at hpr 0 p rfl).1 rfl)
      have sp := hsz p (by simp)
      have wp := hj 0 p rfl
      rw [if_neg (by decide)] at wp
      have hq := rightJ_Pr ((prem_at hpr 1 q rfl).2 rfl)
      have sq := hsz q (by simp)
      have wq := hj 1 q rfl
      rw [if_pos (by decide)] at wq
      have h : s3 3 p q = some J := h
      exact s3_wl hK hK1 wp hp sp wq hq sq h
  · have hr2 : rkids 4 = 2 := by decide
    have hl2 : js.length = 2 := by omega
    match js, hl2 with
    | [p, q], _ =>
      have hp := rightJ_Pr ((prem_at hpr 0 p rfl).1 rfl)
      have sp := hsz p (by simp)
      have wp := hj 0 p rfl
      rw [if_neg (by decide)] at wp
      have hq := rightJ_Pr ((prem_at hpr 1 q rfl).2 rfl)
      have sq := hsz q (by simp)
      have wq := hj 1 q rfl
      rw [if_pos (by decide)] at wq
      have h : s4 p q = some J := h
      exact s4_wl hK hK1 wp hp sp wq hq sq h
  · have hr2 : rkids 5 = 2 := by decide
    have hl2 : js.length = 2 := by omega
    match js, hl2 with
    | [p, q], _ =>
      have hp := rightJ_Pr ((prem_at hpr 0 p rfl).1 rfl)
      have sp := hsz p (by simp)
      have wp := hj 0 p rfl
      rw [if_neg (by decide)] at wp
      have hq := rightJ_Pr ((prem_at hpr 1 q rfl).1 rfl)
      have sq := hsz q (by simp)
      have wq := hj 1 q rfl
      rw [if_neg (by decide)] at wq
      have h : s5 p q = some J := h
      exact s5_wl hK hK1 wp hp sp wq hq sq h
  · have hr2 : rkids 6 = 2 := by decide
    have hl2 : js.length = 2 := by omega
    match js, hl2 with
    | [p, q], _ =>
      have hp := rightJ_Pr ((prem_at hpr 0 p rfl).1 rfl)
      have sp := hsz p (by simp)
      have wp := hj 0 p rfl
      rw [if_neg (by decide)] at wp
      have hq := rightJ_Pr ((prem_at hpr 1 q rfl).2 rfl)
      have sq := hsz q (by simp)
      have wq := hj 1 q rfl
      rw [if_pos (by decide)] at wq
      have h : s3 6 p q = some J := h
      exact s6_wl hK hK1 wp hp sp wq hq sq h
  · have hr2 : rkids 7 = 3 := by decide
    have hl2 : js.length = 3 := by omega
    match js, hl2 with
    | [p, q, s], _ =>
      have hp := rightJ_Pr ((prem_at hpr 0 p rfl).1 rfl)
      have sp := hsz p (by simp)
      have wp := hj 0 p rfl
      rw [if_neg (by decide)] at wp
      have hq := rightJ_Pr ((prem_at hpr 1 q rfl).2 rfl)
      have sq := hsz q (by simp)
      have wq := hj 1 q rfl
      rw [if_pos (by decide)] at wq
      have hs := rightJ_Pr ((prem_at hpr 2 s rfl).1 rfl)
      have ss := hsz s (by simp)
      have ws := hj 2 s rfl
      rw [if_neg (by decide)] at ws
      have h : s7 p q s = some J := h
      exact s7_wl hK hK1 wp hp sp wq hq sq ws hs ss h
  · have hr2 : rkids 8 = 1 := by decide
    have hl2 : js.length = 1 := by omega
    match js, hl2 with
    | [p], _ =>
      have hp := rightJ_Pr ((prem_at hpr 0 p rfl).1 rfl)
      have sp := hsz p (by simp)
      have wp := hj 0 p rfl
      rw [if_neg (by decide)] at wp
      have h : s8 p = some J := h
      exact s8_wl hK hK1 wp hp sp h
  · have hr2 : rkids 9 = 1 := by decide
    have hl2 : js.length = 1 := by omega
    match js, hl2 with
    | [p], _ =>
      have hp := rightJ_Pr ((prem_at hpr 0 p rfl).1 rfl)
      have sp := hsz p (by simp)
      have wp := hj 0 p rfl
      rw [if_neg (by decide)] at wp
      have h : s9 p = some J := h
      exact s9_wl hK hK1 wp hp sp h
  · have hr2 : rkids 10 = 2 := by decide
    have hl2 : js.length = 2 := by omega
    match js, hl2 with
    | [p, q], _ =>
      have hp := rightJ_Pr ((prem_at hpr 0 p rfl).1 rfl)
      have sp := hsz p (by simp)
      have wp := hj 0 p rfl
      rw [if_neg (by decide)] at wp
      have hq := rightJ_Pr ((prem_at hpr 1 q rfl).1 rfl)
      have sq := hsz q (by simp)
      have wq := hj 1 q rfl
      rw [if_neg (by decide)] at wq
      have h : s10 p q = some J := h
      exact s10_wl hK hK1 wp hp sp wq hq sq h
  · have hr2 : rkids 11 = 1 := by decide
    have hl2 : js.length = 1 := by omega
    match js, hl2 with
    | [p], _ =>
      have hp := rightJ_Pr ((prem_at hpr 0 p rfl).1 rfl)
      have sp := hsz p (by simp)
      have wp := hj 0 p rfl
      rw [if_neg (by decide)] at wp
      have h : s11 p = some J := h
      exact s11_wl hK hK1 wp hp sp h
  · have hr2 : rkids 12 = 2 := by decide
    have hl2 : js.length = 2 := by omega
    match js, hl2 with
    | [p, q], _ =>
      have hp := rightJ_Pr ((prem_at hpr 0 p rfl).1 rfl)
      have sp := hsz p (by simp)
      have wp := hj 0 p rfl
      rw [if_neg (by decide)] at wp
      have hq := rightJ_Pr ((prem_at hpr 1 q rfl).1 rfl)
      have sq := hsz q (by simp)
      have wq := hj 1 q rfl
      rw [if_neg (by decide)] at wq
      have h : s12 p q = some J := h
      exact s12_wl hK hK1 wp hp sp wq hq sq h
  · have hr2 : rkids 13 = 1 := by decide
    have hl2 : js.length = 1 := by omega
    match js, hl2 with
    | [p], _ =>
      have hp := rightJ_Pr ((prem_at hpr 0 p rfl).1 rfl)
      have sp := hsz p (by simp)
      have wp := hj 0 p rfl
      rw [if_neg (by decide)] at wp
      have h : s13 p = some J := h
      exact s13_wl hK hK1 wp hp sp h
  · have hr2 : rkids 14 = 1 := by decide
    have hl2 : js.length = 1 := by omega
    match js, hl2 with
    | [p], _ =>
      have hp := rightJ_Pr ((prem_at hpr 0 p rfl).1 rfl)
      have sp := hsz p (by simp)
      have wp := hj 0 p rfl
      rw [if_neg (by decide)] at wp
      have h : s14 p = some J := h
      exact s14_wl hK hK1 wp hp sp h
  · have hr2 : rkids 15 = 2 := by decide
    have hl2 : js.length = 2 := by omega
    match js, hl2 with
    | [p, q], _ =>
      have hp := rightJ_Pr ((prem_at hpr 0 p rfl).1 rfl)
      have sp := hsz p (by simp)
      have wp := hj 0 p rfl
      rw [if_neg (by decide)] at wp
      have hq := rightJ_Pr ((prem_at hpr 1 q rfl).1 rfl)
      have sq := hsz q (by simp)
      have wq := hj 1 q rfl
      rw [if_neg (by decide)] at wq
      have h : s15 p q = some J := h
      exact s15_wl hK hK1 wp hp sp wq hq sq h
  · have hr2 : rkids 16 = 2 := by decide
    have hl2 : js.length = 2 := by omega
    match js, hl2 with
    | [p, q], _ =>
      have hp := rightJ_Pr ((prem_at hpr 0 p rfl).1 rfl)
      have sp := hsz p (by simp)
      have wp := hj 0 p rfl
      rw [if_neg (by decide)] at wp
      have hq := rightJ_Pr ((prem_at hpr 1 q rfl).1 rfl)
      have sq := hsz q (by simp)
      have wq := hj 1 q rfl
      rw [if_neg (by decide)] at wq
      have h : s16 p q = some J := h
      exact s16_wl hK hK1 wp hp sp wq hq sq h
  · have hr2 : rkids 17 = 1 := by decide
    have hl2 : js.length = 1 := by omega
    match js, hl2 with
    | [p], _ =>
      have hp := rightJ_Pr ((prem_at hpr 0 p rfl).1 rfl)
      have sp := hsz p (by simp)
      have wp := hj 0 p rfl
      rw [if_neg (by decide)] at wp
      have h : s17 p = some J := h
      exact s17_wl hK hK1 wp hp sp h
  · have hr2 : rkids 18 = 2 := by decide
    have hl2 : js.length = 2 := by omega
    match js, hl2 with
    | [p, q], _ =>
      have hp := rightJ_Pr ((prem_at hpr 0 p rfl).1 rfl)
      have sp := hsz p (by simp)
      have wp := hj 0 p rfl
      rw [if_neg (by decide)] at wp
      have hq := rightJ_Pr ((prem_at hpr 1 q rfl).2 rfl)
      have sq := hsz q (by simp)
      have wq := hj 1 q rfl
      rw [if_pos (by decide)] at wq
      have h : s18 p q = some J := h
      exact s18_wl hK hK1 wp hp sp wq hq sq h
  · have hr2 : rkids 19 = 3 := by decide
    have hl2 : js.length = 3 := by omega
    match js, hl2 with
    | [p, q, s], _ =>
      have hp := rightJ_Pr ((prem_at hpr 0 p rfl).1 rfl)
      have sp := hsz p (by simp)
      have wp := hj 0 p rfl
      rw [if_neg (by decide)] at wp
      have hq := rightJ_Pr ((prem_at hpr 1 q rfl).2 rfl)
      have sq := hsz q (by simp)
      have wq := hj 1 q rfl
      rw [if_pos (by decide)] at wq
      have hs := rightJ_Pr ((prem_at hpr 2 s rfl).1 rfl)
      have ss := hsz s (by simp)
      have ws := hj 2 s rfl
      rw [if_neg (by decide)] at ws
      have h : s19 p q s = some J := h
      exact s19_wl hK hK1 wp hp sp wq hq sq ws hs ss h
  · have hr2 : rkids 20 = 3 := by decide
    have hl2 : js.length = 3 := by omega
    match js, hl2 with
    | [p, q, s], _ =>
      have hp := rightJ_Pr ((prem_at hpr 0 p rfl).1 rfl)
      have sp := hsz p (by simp)
      have wp := hj 0 p rfl
      rw [if_neg (by decide)] at wp
      have hq := rightJ_Pr ((prem_at hpr 1 q rfl).2 rfl)
      have sq := hsz q (by simp)
      have wq := hj 1 q rfl
      rw [if_pos (by decide)] at wq
      have hs := rightJ_Pr ((prem_at hpr 2 s rfl).1 rfl)
      have ss := hsz s (by simp)
      have ws := hj 2 s rfl
      rw [if_neg (by decide)] at ws
      have h : s20 p q s = some J := h
      exact s20_wl hK hK1 wp hp sp wq hq sq ws hs ss h
  · have hr2 : rkids 21 = 1 := by decide
    have hl2 : js.length = 1 := by omega
    match js, hl2 with
    | [p], _ =>
      have hp := rightJ_Pr ((prem_at hpr 0 p rfl).1 rfl)
      have sp := hsz p (by simp)
      have wp := hj 0 p rfl
      rw [if_neg (by decide)] at wp
      have h : s21 p = some J := h
      exact s21_wl hK hK1 wp hp sp h
  · have hr2 : rkids 22 = 1 := by decide
    have hl2 : js.length = 1 := by omega
    match js, hl2 with
    | [p], _ =>
      have hp := rightJ_Pr ((prem_at hpr 0 p rfl).1 rfl)
      have sp := hsz p (by simp)
      have wp := hj 0 p rfl
      rw [if_neg (by decide)] at wp
      have h : s22 p = some J := h
      exact s22_wl hK hK1 wp hp sp h
  · have hr2 : rkids 23 = 2 := by decide
    have hl2 : js.length = 2 := by omega
    match js, hl2 with
    | [p, q], _ =>
      have hp := rightJ_Pr ((prem_at hpr 0 p rfl).1 rfl)
      have sp := hsz p (by simp)
      have wp := hj 0 p rfl
      rw [if_neg (by decide)] at wp
      have hq := rightJ_Pr ((prem_at hpr 1 q rfl).2 rfl)
      have sq := hsz q (by simp)
      have wq := hj 1 q rfl
      rw [if_pos (by decide)] at wq
      have h : s23 p q = some J := h
      exact s23_wl hK hK1 wp hp sp wq hq sq h
  · have hr2 : rkids 24 = 2 := by decide
    have hl2 : js.length = 2 := by omega
    match js, hl2 with
    | [p, q], _ =>
      have hp := rightJ_Pr ((prem_at hpr 0 p rfl).1 rfl)
      have sp := hsz p (by simp)
      have wp := hj 0 p rfl
      rw [if_neg (by decide)] at wp
      have hq := rightJ_Pr ((prem_at hpr 1 q rfl).1 rfl)
      have sq := hsz q (by simp)
      have wq := hj 1 q rfl
      rw [if_neg (by decide)] at wq
      have h : s24 p q = some J := h
      exact s24_wl hK hK1 wp hp sp wq hq sq h
  · have hr2 : rkids 25 = 2 := by decide
    have hl2 : js.length = 2 := by omega
    match js, hl2 with
    | [p, q], _ =>
      have hp := rightJ_Pr ((prem_at hpr 0 p rfl).1 rfl)
      have sp := hsz p (by simp)
      have wp := hj 0 p rfl
      rw [if_neg (by decide)] at wp
      have hq := rightJ_Pr ((prem_at hpr 1 q rfl).2 rfl)
      have sq := hsz q (by simp)
      have wq := hj 1 q rfl
      rw [if_pos (by decide)] at wq
      have h : s25 3 p q = some J := h
      exact s25_wl hK hK1 wp hp sp wq hq sq h
  · have hr2 : rkids 26 = 2 := by decide
    have hl2 : js.length = 2 := by omega
    match js, hl2 with
    | [p, q], _ =>
      have hp := rightJ_Pr ((prem_at hpr 0 p rfl).1 rfl)
      have sp := hsz p (by simp)
      have wp := hj 0 p rfl
      rw [if_neg (by decide)] at wp
      have hq := rightJ_Pr ((prem_at hpr 1 q rfl).2 rfl)
      have sq := hsz q (by simp)
      have wq := hj 1 q rfl
      rw [if_pos (by decide)] at wq
      have h : s25 6 p q = some J := h
      exact s26_wl hK hK1 wp hp sp wq hq sq h
  · have hr2 : rkids 27 = 3 := by decide
    have hl2 : js.length = 3 := by omega
    match js, hl2 with
    | [p, q, s], _ =>
      have hp := rightJ_Pr ((prem_at hpr 0 p rfl).1 rfl)
      have sp := hsz p (by simp)
      have wp := hj 0 p rfl
      rw [if_neg (by decide)] at wp
      have hq := rightJ_Pr ((prem_at hpr 1 q rfl).2 rfl)
      have sq := hsz q (by simp)
      have wq := hj 1 q rfl
      rw [if_pos (by decide)] at wq
      have hs := rightJ_Pr ((prem_at hpr 2 s rfl).2 rfl)
      have ss := hsz s (by simp)
      have ws := hj 2 s rfl
      rw [if_pos (by decide)] at ws
      have h : s27 p q s = some J := h
      exact s27_wl hK hK1 wp hp sp wq hq sq ws hs ss h
  · have hr2 : rkids 28 = 4 := by decide
    have hl2 : js.length = 4 := by omega
    match js, hl2 with
    | [p, q, s, t], _ =>
      have hp := rightJ_Pr ((prem_at hpr 0 p rfl).1 rfl)
      have sp := hsz p (by simp)
      have wp := hj 0 p rfl
      rw [if_neg (by decide)] at wp
      have hq := rightJ_Pr ((prem_at hpr 1 q rfl).2 rfl)
      have sq := hsz q (by simp)
      have wq := hj 1 q rfl
      rw [if_pos (by decide)] at wq
      have hs := rightJ_Pr ((prem_at hpr 2 s rfl).1 rfl)
      have ss := hsz s (by simp)
      have ws := hj 2 s rfl
      rw [if_neg (by decide)] at ws
      have ht := rightJ_Pr ((prem_at hpr 3 t rfl).1 rfl)
      have st := hsz t (by simp)
      have wt := hj 3 t rfl
      rw [if_neg (by decide)] at wt
      have h : s28 p q s t = some J := h
      exact s28_wl hK hK1 wp hp sp wq hq sq ws hs ss wt ht st h

/-- Premises in their own contexts. -/
def PJ (c : List Ent) (r : Int) (on : List Jd) : Prop := ∀ (idx : Nat) (j : Jd), on[idx]? = some j → WJ (if rinner r (idx : Int) = true then (entryJ r (on.headD zeroJ)).1.i :: lvs c else lvs c) j
theorem entry_wl {G : List Int} {r : Int} {j : Jd} (hj : WJ G j) (he : (entryJ r j).2 = true) : wl G (entryJ r j).1.a ∧ lvl G (entryJ r j).1.a = (entryJ r j).1.i + 1 := by
  have h1 := hj.lu
  unfold entryJ at *
  by_cases g1 : r = 3 ∨ r = 6 ∨ r = 4
  · rw [if_pos g1] at he ⊢
    obtain ⟨_, _, t3⟩ := typedB_of he
    exact ⟨hj.u, by show lvl G j.u = j.a.i + 1; omega⟩
  rw [if_neg g1] at he ⊢
  by_cases g2 : r = 25 ∨ r = 26 ∨ r = 27 ∨ r = 28
  · rw [if_pos g2] at he ⊢
    obtain ⟨_, _, t3⟩ := typedB_of he
    exact ⟨hj.u, by show lvl G j.u = j.a.i + 1; omega⟩
  · rw [if_neg g2]
    exact ⟨hj.a, hj.la⟩
theorem premC_wl {c : List Ent} {r : Int} {k : Nat} {on : List Jd} {e : List Ent} (hW : WC c) (hP : PJ c r on) (h : premC c r (k : Int) on = (e, true)) : WC e ∧ lvs e = (if rinner r (k : Int) = true then (entryJ r (on.headD zeroJ)).1.i :: lvs c else lvs c) := by
  unfold premC at h
  by_cases g1 : pureC c = false ∨ (k : Int) < 0 ∨ rkids r ≤ (k : Int)
  · rw [if_pos g1] at h; cases h
  rw [if_neg g1] at h
  by_cases g2 : rinner r (k : Int) = false
  · rw [if_pos g2] at h; cases h
    rw [g2, if_neg (by simp)]
    exact ⟨hW, rfl⟩
  rw [if_neg g2] at h
  have g2' : rinner r (k : Int) = true := by cases hx : rinner r (k : Int) with
    | true => rfl
    | false => exact (g2 hx).elim
  match on, hP, h with
  | j :: js, hP, h =>
    have h : (if rightJ (c.length : Int) j = false ∨ (entryJ r j).2 = false then (([] : List Ent), false) else (c ++ [(entryJ r j).1], true)) = (e, true) := h
    by_cases g3 : rightJ (c.length : Int) j = false ∨ (entryJ r j).2 = false
    · rw [if_pos g3] at h; cases h
    rw [if_neg g3] at h
    cases h
    have he : (entryJ r j).2 = true := by cases hx : (entryJ r j).2 with
      | true => rfl
      | false => exact (g3 (.inr hx)).elim
    have hj := hP 0 j rfl
    have e0 := rinner_zero r
    rw [if_neg (by simp [e0])] at hj
    obtain ⟨h1, h2⟩ := entry_wl hj he
    rw [g2', if_pos rfl, lvs_add]
    exact ⟨WC_add hW h1 h2, rfl⟩
theorem PJ_add {c : List Ent} {r : Int} {on : List Jd} {J : Jd} (hP : PJ c r on) (hJ : WJ (if rinner r (on.length : Int) = true then (entryJ r (on.headD zeroJ)).1.i :: lvs c else lvs c) J) : PJ c r (on ++ [J]) := by
  intro idx j hj
  have hd : on ≠ [] → (on ++ [J]).headD zeroJ = on.headD zeroJ := fun h => by
    cases on with
    | nil => exact (h rfl).elim
    | cons x xs => rfl
  by_cases hi : idx < on.length
  · rw [List.getElem?_append_left hi] at hj
    rw [hd (fun e => by rw [e] at hi; simp at hi)]
    exact hP idx j hj
  · have hii : idx = on.length := by
      have := (List.getElem?_eq_some_iff.1 hj).1
      simp at this; omega
    subst hii
    rw [List.getElem?_append_right (Nat.le_refl _)] at hj
    simp at hj
    subst hj
    by_cases h0 : on = []
    · subst h0
      have e0 := rinner_zero r
      simp only [List.length_nil] at hJ ⊢
      rw [if_neg (by simp [e0])] at hJ ⊢
      exact hJ
    · rw [hd h0]; exact hJ
theorem jgs_wl {m : Nat} (hm : Held m) {c : List Ent} {w : Nat} {r : Int} (hb : Bd c (w + 1)) (hW : WC c) : ∀ {ds : List Dv} {on on' : List Jd}, (∀ d ∈ ds, ∀ e J, Bd e w → WC e → jg m e d = .ok J → WJ (lvs e) J ∧ jsz J ≤ 1002) → (∀ j ∈ on, jsz j ≤ 1002) → PJ c r on → jgs m c r on ds = .ok on' → PJ c r on'
  | [], on, on', _, _, hP, h => by rw [jgs] at h; cases h; exact hP
  | d :: ds, on, on', hd, ho, hP, h => by
    rw [jgs] at h
    split at h
    · cases h
    · rename_i e he
      split at h
      · cases h
      · rename_i J hJ
        obtain ⟨e1, e2⟩ := premC_wl hW hP he
        obtain ⟨h1, h2⟩ := hd d (by simp) e J (premC_bd hb ho he) e1 hJ
        rw [e2] at h1
        exact jgs_wl hm hb hW (fun d hd' => hd d (by simp [hd'])) (fun j hj => by
          rcases List.mem_append.1 hj with hj | hj
          · exact ho j hj
          · simp only [List.mem_singleton] at hj
            subst hj; exact h2) (PJ_add hP h1) h
theorem jg_wl {m : Nat} (hm : Held m) : ∀ (w : Nat) (d : Dv) (c : List Ent) (J : Jd), d.size ≤ w → w ≤ 900 → Bd c w → WC c → jg m c d = .ok J → WJ (lvs c) J
  | 0, d, c, J, hd, _, _, _, _ => by have := Dv.size_pos d; omega
  | w + 1, d, c, J, hd, hw, hb, hW, h => by
    have h0 := h
    rw [jg_eq] at h
    split at h
    · cases h
    · rename_i on hon
      obtain ⟨h1, h2⟩ := jgs_ok hm hb (fun k hk e J' he hJ => by have := jg_ok hm w k e J' (by have := Dv.size_kid hk; omega) he hJ; omega) (fun j hj => by cases hj) hon
      have hP := jgs_wl hm hb hW (fun k hk e J' he hWe hJ => ⟨jg_wl hm w k e J' (by have := Dv.size_kid hk; omega) (by omega) he hWe hJ, by have := jg_ok hm w k e J' (by have := Dv.size_kid hk; omega) he hJ; omega⟩) (fun j hj => by cases hj) (fun idx j hj => by simp at hj) hon
      have hl := Dv.len_kids d
      have hsz := hb.sized h1 (by simp at h2; omega)
      have hp := (jfin_ok hm (r := d.rule) (i := d.i) hsz h).2
      obtain ⟨_, _, _, q4, q5⟩ := (f62_ex (n := 20000001) (by omega) hsz).2 J hp
      exact concl_wl (by have := hb.1; omega) hb.2.2 h1 q5 hW hP q4
end Go.Proofs.Ytcaahmielncmpaa
