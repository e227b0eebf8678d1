/-
  Plain facts on what the functions compute.
-/
import Derived.Test.YtcaahmielncmpaaGreatRuH
set_option linter.unusedSimpArgs false
set_option linter.unusedVariables false
namespace Go.Proofs.YtcaahmielncmpaaGreat
open Go
set_option maxRecDepth 20000

theorem prem_at {c : List Ent} {r : Int} {j0 : Jd} : ∀ {js : List Jd} {i : Nat}, premOk c r j0 i js = true → ∀ (idx : Nat) (j : Jd), js[idx]? = some j → (rinner r ((i + idx : Nat) : Int) = false → rightJ (c.length : Int) j = true) ∧ (rinner r ((i + idx : Nat) : Int) = true → rightJ ((c.length : Int) + 1) j = true)
  | [], _, _, idx, j, hj => by simp at hj
  | x :: js, i, h, idx, j, hj => by
    unfold premOk at h
    rw [Bool.and_eq_true] at h
    match idx, hj with
    | 0, hj =>
      simp at hj
      subst hj
      rw [Nat.add_zero]
      constructor
      · intro hr
        have := h.1
        rw [if_neg (by simp [hr])] at this
        exact this
      · intro hr
        have := h.1
        rw [if_pos hr, Bool.and_eq_true] at this
        exact this.2
    | idx + 1, hj =>
      have := prem_at h.2 idx j (by simpa using hj)
      rw [show i + (idx + 1) = i + 1 + idx by omega]
      exact this
theorem wrI_id {n : Int} (h : -9223372036854775808 ≤ n ∧ n ≤ 9223372036854775807) : wrI n = n := wrap_id h
theorem atC_ok {c : List Ent} (hc : pureC c = true) (hl : c.length ≤ 900) (hs : ∀ e ∈ c, e.a.size ≤ 1002) (k : Int) : (atC c k).1.size ≤ 1002 ∧ ((atC c k).2.2 = true → 0 ≤ k ∧ k < (c.length : Int) ∧ 0 ≤ (atC c k).2.1 ∧ pf (c.length : Int) (atC c k).1 = true) := by
  have hz := tzero_size
  unfold atC
  by_cases h : k < 0 ∨ (c.length : Int) ≤ k ∨ rightC 0 c = false
  · rw [if_pos h]; exact ⟨by show tzero.size ≤ _; omega, fun h => by cases h⟩
  rw [if_neg h]
  have hlt : ((c.length : Int) - 1 - k).toNat < c.length := by omega
  have hget := List.getElem?_eq_getElem hlt
  have hm := List.mem_of_getElem? hget
  have hsz := hs _ hm
  rw [hget]
  unfold pureC at hc
  rw [Bool.and_eq_true] at hc
  have hr := rightC_get hc.1 hget
  have hp := puresC_mem hc.2 hm
  generalize c[((c.length : Int) - 1 - k).toNat] = e at *
  have hmk := pure_marked hp
  have hcnt : e.a.count = 0 := by unfold Tm.pure at hp; simp only [Bool.and_eq_true, decide_eq_true_eq] at hp; exact hp.2
  have hd := Tm.deep_size e.a
  have hf : e.a.free ≤ (((c.length : Int) - 1 - k).toNat : Int) := by have := hr.2.2; omega
  have hroom : e.a.room (k + 1) := by unfold Tm.room; omega
  have e1 : Tm.liftZ (k + 1) 0 e.a = Tm.up (k + 1) 0 e.a := liftZ_up (k + 1) 0 e.a (by omega) (by omega) (marked_right hmk) hroom
  have hm2 : (Tm.up (k + 1) 0 e.a).marked = true := by rw [(Tm.up_sort (k + 1) (by omega) _ e.a 0 (Nat.lt_succ_self _) (marked_right hmk) hroom).1, hmk]
  show (Tm.liftZ (k + 1) 0 e.a).size ≤ _ ∧ (true = true → 0 ≤ k ∧ k < (c.length : Int) ∧ 0 ≤ e.i ∧ pf (c.length : Int) (Tm.liftZ (k + 1) 0 e.a) = true)
  rw [e1, Tm.up_size]
  refine ⟨by omega, fun _ => ⟨by omega, by omega, (lev_range hr.1).1, pf_mk hm2 ?_ ?_⟩⟩
  · have e : (Tm.up (k + 1) 0 e.a).erase = Tm.up (k + 1) 0 e.a := by rw [Tm.erase_up (k + 1) e.a hmk 0, Tm.erase_fix _ e.a (Nat.lt_succ_self _) hcnt]
    rw [← e]
    exact Tm.erase_count _ _ (Nat.lt_succ_self _) hm2
  · have := Tm.free_range e.a (marked_right hmk)
    rw [Tm.up_free (k + 1) (by omega) 0 e.a (by omega)]
    split <;> omega
theorem c1_ok {n : Nat} {c : List Ent} {k : Int} : ConcOk (c.length : Int) false (s1 k) (f34 n c 1 k []) := by
  unfold f34 o34_0
  simp only [ifB_eq, Int.reduceEq, decide_true, if_true, f63_eq, Option.bind_some, decide_eq_true_eq, tz_eq, Tm.eta]
  by_cases h : 0 ≤ k
  case neg =>
    rw [if_neg h]
    exact good_ty (by simp only [Tm.size, Tm.sizes]; omega) (fun h => by cases h) (by simp [s1, h])
  rw [if_pos h]
  by_cases h9 : k ≤ 900
  case neg => exact good_ty (by simp only [Tm.size, Tm.sizes]; omega) (fun hb => by simp [h9] at hb) (by simp [s1, h9])
  refine good_ty (by simp only [Tm.size, Tm.sizes]; omega) (fun hb => ?_) (by simp [s1, h, h9, wrI_id (show -9223372036854775808 ≤ k + 1 ∧ k + 1 ≤ 9223372036854775807 by omega), wrI_id (show -9223372036854775808 ≤ k + 2 ∧ k + 2 ≤ 9223372036854775807 by omega)])
  rw [wrI_id (by omega), wrI_id (by omega)]
  exact ⟨by omega, pf_sort (by omega) (lev_of h (by omega)), pf_sort (by omega) (lev_of (by omega) (by omega))⟩
theorem c2_ok {n : Nat} {c : List Ent} {k : Int} (hn : 20000000 < n) (hc : pureC c = true) (hl : c.length ≤ 900) (hcs : csize c ≤ 1000000) (hs : ∀ e ∈ c, e.a.size ≤ 1002) : ConcOk (c.length : Int) false (s2 c k) (f34 n c 2 k []) := by
  obtain ⟨h1, h2⟩ := atC_ok hc hl hs k
  unfold f34 o34_0
  simp only [ifB_eq, Int.reduceEq, decide_true, decide_false, Bool.false_eq_true, if_true, if_false, f65_eq, Option.bind_some, tz_eq, Tm.eta]
  rw [f64_ok n c k (by omega) (by rw [BIG_eq]; omega), Option.bind_some]
  refine good_ty (by simp only [Tm.size, Tm.sizes]; omega) (fun hb => ?_) rfl
  obtain ⟨h3, h4, h5, h6⟩ := h2 hb
  exact ⟨h5, pf_var h3 h4 (by omega), h6⟩
theorem conc_ok {n : Nat} {c : List Ent} {r k : Int} {js : List Jd} (hn : 20000000 < n) (hl : c.length ≤ 900) (hcs : csize c ≤ 1000000) (hs : ∀ e ∈ c, e.a.size ≤ 1002) (hsz : ∀ j ∈ js, jsz j ≤ 1002) (ho : ofOk c r js = true) : ConcOk (c.length : Int) (decide (13 ≤ r) && decide (r ≤ 28)) (concl c r k js) (f34 n c r k js) := by
  obtain ⟨hc, hk, hpr⟩ := ofOk_of ho
  have hK : (0 : Int) ≤ (c.length : Int) := by omega
  have hK1 : (c.length : Int) ≤ 900 := by omega
  have hr : 1 ≤ r ∧ r ≤ 28 := by
    by_cases h : r < 1 ∨ 28 < r
    · rw [rkids_out h] at hk; omega
    · omega
  have hr' : r = 1 ∨ r = 2 ∨ r = 3 ∨ r = 4 ∨ r = 5 ∨ r = 6 ∨ r = 7 ∨ r = 8 ∨ r = 9 ∨ r = 10 ∨ r = 11 ∨ r = 12 ∨ r = 13 ∨ r = 14 ∨ r = 15 ∨ r = 16 ∨ r = 17 ∨ r = 18 ∨ r = 19 ∨ r = 20 ∨ r = 21 ∨ r = 22 ∨ r = 23 ∨ r = 24 ∨ r = 25 ∨ r = 26 ∨ r = 27 ∨ r = 28 := by omega
  rcases hr' with rfl | rfl | rfl | rfl | rfl | rfl | rfl | rfl | rfl | rfl | rfl | rfl | rfl | rfl | rfl | rfl | rfl | rfl | rfl | rfl | rfl | rfl | rfl | rfl | rfl | rfl | rfl | rfl
  · have hr2 : rkids 1 = 0 := by decide
    have hl2 : js.length = 0 := by omega
    match js, hl2 with
    | [], _ =>
      exact c1_ok
  · have hr2 : rkids 2 = 0 := by decide
    have hl2 : js.length = 0 := by omega
    match js, hl2 with
    | [], _ =>
      exact c2_ok hn hc hl hcs hs
  · have hr2 : rkids 3 = 2 := by decide
    have hl2 : js.length = 2 := by omega
    match js, hl2 with
    | [p, q], _ =>
      have hp := rightJ_Pr ((prem_at hpr 0 p rfl).1 rfl)
      have sp := hsz p (by simp)
      have hq := rightJ_Pr ((prem_at hpr 1 q rfl).2 rfl)
      have sq := hsz q (by simp)
      rw [f34_ty n c 3 k _ (by omega) (by omega)]
      exact t3_ok hK hp hq sp sq
  · have hr2 : rkids 4 = 2 := by decide
    have hl2 : js.length = 2 := by omega
    match js, hl2 with
    | [p, q], _ =>
      have hp := rightJ_Pr ((prem_at hpr 0 p rfl).1 rfl)
      have sp := hsz p (by simp)
      have hq := rightJ_Pr ((prem_at hpr 1 q rfl).2 rfl)
      have sq := hsz q (by simp)
      rw [f34_ty n c 4 k _ (by omega) (by omega)]
      exact t4_ok hK hp hq sp sq
  · have hr2 : rkids 5 = 2 := by decide
    have hl2 : js.length = 2 := by omega
    match js, hl2 with
    | [p, q], _ =>
      have hp := rightJ_Pr ((prem_at hpr 0 p rfl).1 rfl)
      have sp := hsz p (by simp)
      have hq := rightJ_Pr ((prem_at hpr 1 q rfl).1 rfl)
      have sq := hsz q (by simp)
      rw [f34_ty n c 5 k _ (by omega) (by omega)]
      exact t5_ok hn hK (by omega) hp hq sp sq
  · have hr2 : rkids 6 = 2 := by decide
    have hl2 : js.length = 2 := by omega
    match js, hl2 with
    | [p, q], _ =>
      have hp := rightJ_Pr ((prem_at hpr 0 p rfl).1 rfl)
      have sp := hsz p (by simp)
      have hq := rightJ_Pr ((prem_at hpr 1 q rfl).2 rfl)
      have sq := hsz q (by simp)
      rw [f34_ty n c 6 k _ (by omega) (by omega)]
      exact t6_ok hK hp hq sp sq
  · have hr2 : rkids 7 = 3 := by decide
    have hl2 : js.length = 3 := by omega
    match js, hl2 with
    | [p, q, s], _ =>
      have hp := rightJ_Pr ((prem_at hpr 0 p rfl).1 rfl)
      have sp := hsz p (by simp)
      have hq := rightJ_Pr ((prem_at hpr 1 q rfl).2 rfl)
      have sq := hsz q (by simp)
      have hs := rightJ_Pr ((prem_at hpr 2 s rfl).1 rfl)
      have ss := hsz s (by simp)
      rw [f34_ty n c 7 k _ (by omega) (by omega)]
      exact t7_ok hn hK (by omega) hp hq hs sp sq ss
  · have hr2 : rkids 8 = 1 := by decide
    have hl2 : js.length = 1 := by omega
    match js, hl2 with
    | [p], _ =>
      have hp := rightJ_Pr ((prem_at hpr 0 p rfl).1 rfl)
      have sp := hsz p (by simp)
      rw [f34_ty n c 8 k _ (by omega) (by omega)]
      exact t8_ok hK hp sp
  · have hr2 : rkids 9 = 1 := by decide
    have hl2 : js.length = 1 := by omega
    match js, hl2 with
    | [p], _ =>
      have hp := rightJ_Pr ((prem_at hpr 0 p rfl).1 rfl)
      have sp := hsz p (by simp)
      rw [f34_ty n c 9 k _ (by omega) (by omega)]
      exact t9_ok hn hK (by omega) hp sp
  · have hr2 : rkids 10 = 2 := by decide
    have hl2 : js.length = 2 := by omega
    match js, hl2 with
    | [p, q], _ =>
      have hp := rightJ_Pr ((prem_at hpr 0 p rfl).1 rfl)
      have sp := hsz p (by simp)
      have hq := rightJ_Pr ((prem_at hpr 1 q rfl).1 rfl)
      have sq := hsz q (by simp)
      rw [f34_ty n c 10 k _ (by omega) (by omega)]
      exact t10_ok hn hK hp hq sp sq
  · have hr2 : rkids 11 = 1 := by decide
    have hl2 : js.length = 1 := by omega
    match js, hl2 with
    | [p], _ =>
      have hp := rightJ_Pr ((prem_at hpr 0 p rfl).1 rfl)
      have sp := hsz p (by simp)
      rw [f34_ty n c 11 k _ (by omega) (by omega)]
      exact t11_ok hK hp sp
  · have hr2 : rkids 12 = 2 := by decide
    have hl2 : js.length = 2 := by omega
    match js, hl2 with
    | [p, q], _ =>
      have hp := rightJ_Pr ((prem_at hpr 0 p rfl).1 rfl)
      have sp := hsz p (by simp)
      have hq := rightJ_Pr ((prem_at hpr 1 q rfl).1 rfl)
      have sq := hsz q (by simp)
      rw [f34_ty n c 12 k _ (by omega) (by omega)]
      exact t12_ok hn hp hq sp sq
  · have hr2 : rkids 13 = 1 := by decide
    have hl2 : js.length = 1 := by omega
    match js, hl2 with
    | [p], _ =>
      have hp := rightJ_Pr ((prem_at hpr 0 p rfl).1 rfl)
      have sp := hsz p (by simp)
      rw [f34_al n c 13 k _ (by omega) (by omega)]
      exact a13_ok hp sp hn hK (by omega)
  · have hr2 : rkids 14 = 1 := by decide
    have hl2 : js.length = 1 := by omega
    match js, hl2 with
    | [p], _ =>
      have hp := rightJ_Pr ((prem_at hpr 0 p rfl).1 rfl)
      have sp := hsz p (by simp)
      rw [f34_al n c 14 k _ (by omega) (by omega)]
      exact a14_ok hp sp hn hK (by omega)
  · have hr2 : rkids 15 = 2 := by decide
    have hl2 : js.length = 2 := by omega
    match js, hl2 with
    | [p, q], _ =>
      have hp := rightJ_Pr ((prem_at hpr 0 p rfl).1 rfl)
      have sp := hsz p (by simp)
      have hq := rightJ_Pr ((prem_at hpr 1 q rfl).1 rfl)
      have sq := hsz q (by simp)
      rw [f34_al n c 15 k _ (by omega) (by omega)]
      exact a15_ok hp hq sp sq hn hK (by omega)
  · have hr2 : rkids 16 = 2 := by decide
    have hl2 : js.length = 2 := by omega
    match js, hl2 with
    | [p, q], _ =>
      have hp := rightJ_Pr ((prem_at hpr 0 p rfl).1 rfl)
      have sp := hsz p (by simp)
      have hq := rightJ_Pr ((prem_at hpr 1 q rfl).1 rfl)
      have sq := hsz q (by simp)
      rw [f34_al n c 16 k _ (by omega) (by omega)]
      exact a16_ok hp hq sp sq hn hK (by omega)
  · have hr2 : rkids 17 = 1 := by decide
    have hl2 : js.length = 1 := by omega
    match js, hl2 with
    | [p], _ =>
      have hp := rightJ_Pr ((prem_at hpr 0 p rfl).1 rfl)
      have sp := hsz p (by simp)
      rw [f34_al n c 17 k _ (by omega) (by omega)]
      exact a17_ok hp sp hn hK (by omega)
  · have hr2 : rkids 18 = 2 := by decide
    have hl2 : js.length = 2 := by omega
    match js, hl2 with
    | [p, q], _ =>
      have hp := rightJ_Pr ((prem_at hpr 0 p rfl).1 rfl)
      have sp := hsz p (by simp)
      have hq := rightJ_Pr ((prem_at hpr 1 q rfl).2 rfl)
      have sq := hsz q (by simp)
      rw [f34_al n c 18 k _ (by omega) (by omega)]
      exact a18_ok hp hq sp sq hn hK (by omega)
  · have hr2 : rkids 19 = 3 := by decide
    have hl2 : js.length = 3 := by omega
    match js, hl2 with
    | [p, q, s], _ =>
      have hp := rightJ_Pr ((prem_at hpr 0 p rfl).1 rfl)
      have sp := hsz p (by simp)
      have hq := rightJ_Pr ((prem_at hpr 1 q rfl).2 rfl)
      have sq := hsz q (by simp)
      have hs := rightJ_Pr ((prem_at hpr 2 s rfl).1 rfl)
      have ss := hsz s (by simp)
      rw [f34_al n c 19 k _ (by omega) (by omega)]
      exact a19_ok hp hq hs sp sq ss hn hK (by omega)
  · have hr2 : rkids 20 = 3 := by decide
    have hl2 : js.length = 3 := by omega
    match js, hl2 with
    | [p, q, s], _ =>
      have hp := rightJ_Pr ((prem_at hpr 0 p rfl).1 rfl)
      have sp := hsz p (by simp)
      have hq := rightJ_Pr ((prem_at hpr 1 q rfl).2 rfl)
      have sq := hsz q (by simp)
      have hs := rightJ_Pr ((prem_at hpr 2 s rfl).1 rfl)
      have ss := hsz s (by simp)
      rw [f34_al n c 20 k _ (by omega) (by omega)]
      exact a20_ok hp hq hs sp sq ss hn hK (by omega)
  · have hr2 : rkids 21 = 1 := by decide
    have hl2 : js.length = 1 := by omega
    match js, hl2 with
    | [p], _ =>
      have hp := rightJ_Pr ((prem_at hpr 0 p rfl).1 rfl)
      have sp := hsz p (by simp)
      rw [f34_al n c 21 k _ (by omega) (by omega)]
      exact a21_ok hp sp hn hK (by omega)
  · have hr2 : rkids 22 = 1 := by decide
    have hl2 : js.length = 1 := by omega
    match js, hl2 with
    | [p], _ =>
      have hp := rightJ_Pr ((prem_at hpr 0 p rfl).1 rfl)
      have sp := hsz p (by simp)
      rw [f34_al n c 22 k _ (by omega) (by omega)]
      exact a22_ok hp sp hn hK (by omega)
  · have hr2 : rkids 23 = 2 := by decide
    have hl2 : js.length = 2 := by omega
    match js, hl2 with
    | [p, q], _ =>
      have hp := rightJ_Pr ((prem_at hpr 0 p rfl).1 rfl)
      have sp := hsz p (by simp)
      have hq := rightJ_Pr ((prem_at hpr 1 q rfl).2 rfl)
      have sq := hsz q (by simp)
      rw [f34_al n c 23 k _ (by omega) (by omega)]
      exact a23_ok hp hq sp sq hn hK (by omega)
  · have hr2 : rkids 24 = 2 := by decide
    have hl2 : js.length = 2 := by omega
    match js, hl2 with
    | [p, q], _ =>
      have hp := rightJ_Pr ((prem_at hpr 0 p rfl).1 rfl)
      have sp := hsz p (by simp)
      have hq := rightJ_Pr ((prem_at hpr 1 q rfl).1 rfl)
      have sq := hsz q (by simp)
      rw [f34_al n c 24 k _ (by omega) (by omega)]
      exact a24_ok hp hq sp sq hn hK (by omega)
  · have hr2 : rkids 25 = 2 := by decide
    have hl2 : js.length = 2 := by omega
    match js, hl2 with
    | [p, q], _ =>
      have hp := rightJ_Pr ((prem_at hpr 0 p rfl).1 rfl)
      have sp := hsz p (by simp)
      have hq := rightJ_Pr ((prem_at hpr 1 q rfl).2 rfl)
      have sq := hsz q (by simp)
      rw [f34_al n c 25 k _ (by omega) (by omega)]
      exact a25_ok hp hq sp sq hn hK (by omega)
  · have hr2 : rkids 26 = 2 := by decide
    have hl2 : js.length = 2 := by omega
    match js, hl2 with
    | [p, q], _ =>
      have hp := rightJ_Pr ((prem_at hpr 0 p rfl).1 rfl)
      have sp := hsz p (by simp)
      have hq := rightJ_Pr ((prem_at hpr 1 q rfl).2 rfl)
      have sq := hsz q (by simp)
      rw [f34_al n c 26 k _ (by omega) (by omega)]
      exact a26_ok hp hq sp sq hn hK (by omega)
  · have hr2 : rkids 27 = 3 := by decide
    have hl2 : js.length = 3 := by omega
    match js, hl2 with
    | [p, q, s], _ =>
      have hp := rightJ_Pr ((prem_at hpr 0 p rfl).1 rfl)
      have sp := hsz p (by simp)
      have hq := rightJ_Pr ((prem_at hpr 1 q rfl).2 rfl)
      have sq := hsz q (by simp)
      have hs := rightJ_Pr ((prem_at hpr 2 s rfl).2 rfl)
      have ss := hsz s (by simp)
      rw [f34_al n c 27 k _ (by omega) (by omega)]
      exact a27_ok hp hq hs sp sq ss hn hK (by omega)
  · have hr2 : rkids 28 = 4 := by decide
    have hl2 : js.length = 4 := by omega
    match js, hl2 with
    | [p, q, s, t], _ =>
      have hp := rightJ_Pr ((prem_at hpr 0 p rfl).1 rfl)
      have sp := hsz p (by simp)
      have hq := rightJ_Pr ((prem_at hpr 1 q rfl).2 rfl)
      have sq := hsz q (by simp)
      have hs := rightJ_Pr ((prem_at hpr 2 s rfl).1 rfl)
      have ss := hsz s (by simp)
      have ht := rightJ_Pr ((prem_at hpr 3 t rfl).1 rfl)
      have st := hsz t (by simp)
      rw [f34_al n c 28 k _ (by omega) (by omega)]
      exact a28_ok hp hq hs ht sp sq ss st hn hK (by omega)
end Go.Proofs.YtcaahmielncmpaaGreat
