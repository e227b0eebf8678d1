/-
  Plain facts on what the functions compute.
-/
import Derived.Test.YtcaahmielncmpaaGreatRuK
set_option linter.unusedSimpArgs false
set_option linter.unusedVariables false
namespace Go.Proofs.YtcaahmielncmpaaGreat
open Go
set_option maxRecDepth 20000

theorem f40_ty (n : Nat) (c : List Ent) (r k : Int) (js : List Jd) (h1 : 3 ≤ r) (h2 : r ≤ 12) : f40 n c r k js = f77 n r js := by
  have h : r = 3 ∨ r = 4 ∨ r = 5 ∨ r = 6 ∨ r = 7 ∨ r = 8 ∨ r = 9 ∨ r = 10 ∨ r = 11 ∨ r = 12 := by omega
  rcases h with rfl | rfl | rfl | rfl | rfl | rfl | rfl | rfl | rfl | rfl <;>
  · simp only [f40, o40_0, c40_2, o40_2, ifB_eq, Int.reduceEq, decide_true, decide_false, if_true, if_false, reduceIte, Bool.false_eq_true]
    exact bind_pair _
theorem f40_bi (n : Nat) (c : List Ent) (r k : Int) (js : List Jd) (h1 : 25 ≤ r) (h2 : r ≤ 28) : f40 n c r k js = f78 n r js := by
  have h : r = 25 ∨ r = 26 ∨ r = 27 ∨ r = 28 := by omega
  rcases h with rfl | rfl | rfl | rfl <;>
  · simp only [f40, o40_0, c40_2, o40_2, c40_3, o40_3, ifB_eq, Int.reduceEq, decide_true, decide_false, if_true, if_false, reduceIte, Bool.false_eq_true]
    exact bind_pair _
theorem f40_re (n : Nat) (c : List Ent) (r k : Int) (js : List Jd) (h1 : 18 ≤ r) (h2 : r ≤ 22) : f40 n c r k js = f79 n r js := by
  have h : r = 18 ∨ r = 19 ∨ r = 20 ∨ r = 21 ∨ r = 22 := by omega
  rcases h with rfl | rfl | rfl | rfl | rfl <;>
  · simp only [f40, o40_0, c40_2, o40_2, c40_3, o40_3, c40_4, o40_4, ifB_eq, Int.reduceEq, decide_true, decide_false, if_true, if_false, reduceIte, Bool.false_eq_true]
    exact bind_pair _
theorem f40_eq (n : Nat) (c : List Ent) (r k : Int) (js : List Jd) (h : r = 13 ∨ r = 14 ∨ r = 15 ∨ r = 16 ∨ r = 17 ∨ r = 23 ∨ r = 24) : f40 n c r k js = f80 n r js := by
  rcases h with rfl | rfl | rfl | rfl | rfl | rfl | rfl <;>
  · simp only [f40, o40_0, c40_2, o40_2, c40_3, o40_3, c40_4, o40_4, ifB_eq, Int.reduceEq, decide_true, decide_false, if_true, if_false, reduceIte, Bool.false_eq_true]
    exact bind_pair _
theorem d1_ok {n : Nat} {c : List Ent} {k : Int} : ConcR (s1 k) (f40 n c 1 k []) := by
  simp only [f40, o40_0, ifB_eq, Int.reduceEq, decide_true, if_true, decide_eq_true_eq, tz_eq, zj_eq]
  by_cases h0 : k < 0
  · rw [if_pos h0]; exact concNo (by unfold s1; rw [if_neg (by omega)])
  rw [if_neg h0]
  by_cases h9 : 900 < k
  · rw [if_pos h9]; exact concNo (by unfold s1; rw [if_neg (by omega)])
  rw [if_neg h9]
  simp only [c40_1, o40_1, f75_eq, Option.bind_some, f74_eq]
  rw [ckI_eq (by omega), ckI_eq (by omega)]
  exact concYes (by unfold s1; rw [if_pos (by omega)])
theorem d2_ok {n : Nat} {c : List Ent} {k : Int} (hcn : csize c < n) (hcs : csize c ≤ 1000000) : ConcR (s2 c k) (f40 n c 2 k []) := by
  simp only [f40, o40_0, ifB_eq, Int.reduceEq, decide_true, decide_false, Bool.false_eq_true, if_true, if_false, tz_eq, zj_eq]
  rw [f76_ok n c k hcn (by rw [BIG_eq]; omega), Option.bind_some]
  cases hb : (atC c k).2.2 with
  | false => rw [if_pos (by rfl)]; exact concNo (by unfold s2; rw [hb]; rfl)
  | true =>
    rw [if_neg (by simp), f74_eq, Option.bind_some]
    exact concYes (by unfold s2; rw [hb]; rfl)

theorem prem_entry {c : List Ent} {r : Int} {j0 : Jd} : ∀ {js : List Jd} {i : Nat}, premOk c r j0 i js = true → ∀ (idx : Nat) (j : Jd), js[idx]? = some j → rinner r ((i + idx : Nat) : Int) = true → (entryJ r j0).2 = true
  | [], _, _, idx, j, hj, _ => by simp at hj
  | x :: js, i, h, idx, j, hj, hr => by
    unfold premOk at h
    rw [Bool.and_eq_true] at h
    match idx, hj, hr with
    | 0, hj, hr =>
      rw [Nat.add_zero] at hr
      have := h.1
      rw [if_pos hr, Bool.and_eq_true] at this
      exact this.1
    | idx + 1, hj, hr =>
      exact prem_entry h.2 idx j (by simpa using hj) (by rw [show i + 1 + idx = i + (idx + 1) by omega]; exact hr)
theorem f40_ok {n : Nat} {c : List Ent} {r k : Int} {js : List Jd} (hn : 20000000 < n) (hl : c.length ≤ 900) (hcs : csize c ≤ 1000000) (hsz : ∀ j ∈ js, jsz j ≤ 1002) (ho : ofOk c r js = true) : ConcR (concl c r k js) (f40 n c r k js) := by
  obtain ⟨hc, hk, hpr⟩ := ofOk_of ho
  have hK : (0 : Int) ≤ (c.length : Int) := by omega
  have hK1 : (c.length : Int) ≤ 900 := by omega
  have hr : 1 ≤ r ∧ r ≤ 28 := by
    by_cases h : r < 1 ∨ 28 < r
    · rw [rkids_out h] at hk; omega
    · omega
  have hr' : r = 1 ∨ r = 2 ∨ r = 3 ∨ r = 4 ∨ r = 5 ∨ r = 6 ∨ r = 7 ∨ r = 8 ∨ r = 9 ∨ r = 10 ∨ r = 11 ∨ r = 12 ∨ r = 13 ∨ r = 14 ∨ r = 15 ∨ r = 16 ∨ r = 17 ∨ r = 18 ∨ r = 19 ∨ r = 20 ∨ r = 21 ∨ r = 22 ∨ r = 23 ∨ r = 24 ∨ r = 25 ∨ r = 26 ∨ r = 27 ∨ r = 28 := by omega
  rcases hr' with rfl | rfl | rfl | rfl | rfl | rfl | rfl | rfl | rfl | rfl | rfl | rfl | rfl | rfl | rfl | rfl | rfl | rfl | rfl | rfl | rfl | rfl | rfl | rfl | rfl | rfl | rfl | rfl
  · have hr2 : rkids 1 = 0 := by decide
    have hl2 : js.length = 0 := by omega
    match js, hl2 with
    | [], _ =>
      exact d1_ok
  · have hr2 : rkids 2 = 0 := by decide
    have hl2 : js.length = 0 := by omega
    match js, hl2 with
    | [], _ =>
      exact d2_ok (by omega) hcs
  · have hr2 : rkids 3 = 2 := by decide
    have hl2 : js.length = 2 := by omega
    match js, hl2 with
    | [p, q], _ =>
      have rp := (prem_at hpr 0 p rfl).1 rfl
      have sp := hsz p (by simp)
      have rq := (prem_at hpr 1 q rfl).2 rfl
      have sq := hsz q (by simp)
      have ee := prem_entry hpr 1 q rfl rfl
      have ep : typedB p false = true := ee
      rw [f40_ty n c 3 k _ (by omega) (by omega)]
      exact d3_ok hn hK hK1 rp sp rq sq ep
  · have hr2 : rkids 4 = 2 := by decide
    have hl2 : js.length = 2 := by omega
    match js, hl2 with
    | [p, q], _ =>
      have rp := (prem_at hpr 0 p rfl).1 rfl
      have sp := hsz p (by simp)
      have rq := (prem_at hpr 1 q rfl).2 rfl
      have sq := hsz q (by simp)
      have ee := prem_entry hpr 1 q rfl rfl
      have ep : typedB p false = true := ee
      rw [f40_ty n c 4 k _ (by omega) (by omega)]
      exact d4_ok hn hK hK1 rp sp rq sq ep
  · have hr2 : rkids 5 = 2 := by decide
    have hl2 : js.length = 2 := by omega
    match js, hl2 with
    | [p, q], _ =>
      have rp := (prem_at hpr 0 p rfl).1 rfl
      have sp := hsz p (by simp)
      have rq := (prem_at hpr 1 q rfl).1 rfl
      have sq := hsz q (by simp)
      rw [f40_ty n c 5 k _ (by omega) (by omega)]
      exact d5_ok hn hK hK1 rp sp rq sq
  · have hr2 : rkids 6 = 2 := by decide
    have hl2 : js.length = 2 := by omega
    match js, hl2 with
    | [p, q], _ =>
      have rp := (prem_at hpr 0 p rfl).1 rfl
      have sp := hsz p (by simp)
      have rq := (prem_at hpr 1 q rfl).2 rfl
      have sq := hsz q (by simp)
      have ee := prem_entry hpr 1 q rfl rfl
      have ep : typedB p false = true := ee
      rw [f40_ty n c 6 k _ (by omega) (by omega)]
      exact d6_ok hn hK hK1 rp sp rq sq ep
  · have hr2 : rkids 7 = 3 := by decide
    have hl2 : js.length = 3 := by omega
    match js, hl2 with
    | [p, q, s], _ =>
      have rp := (prem_at hpr 0 p rfl).1 rfl
      have sp := hsz p (by simp)
      have rq := (prem_at hpr 1 q rfl).2 rfl
      have sq := hsz q (by simp)
      have rs := (prem_at hpr 2 s rfl).1 rfl
      have ss := hsz s (by simp)
      have ee := prem_entry hpr 1 q rfl rfl
      rw [f40_ty n c 7 k _ (by omega) (by omega)]
      exact d7_ok hn hK hK1 rp sp rq sq rs ss
  · have hr2 : rkids 8 = 1 := by decide
    have hl2 : js.length = 1 := by omega
    match js, hl2 with
    | [p], _ =>
      have rp := (prem_at hpr 0 p rfl).1 rfl
      have sp := hsz p (by simp)
      rw [f40_ty n c 8 k _ (by omega) (by omega)]
      exact d8_ok hn hK hK1 rp sp
  · have hr2 : rkids 9 = 1 := by decide
    have hl2 : js.length = 1 := by omega
    match js, hl2 with
    | [p], _ =>
      have rp := (prem_at hpr 0 p rfl).1 rfl
      have sp := hsz p (by simp)
      rw [f40_ty n c 9 k _ (by omega) (by omega)]
      exact d9_ok hn hK hK1 rp sp
  · have hr2 : rkids 10 = 2 := by decide
    have hl2 : js.length = 2 := by omega
    match js, hl2 with
    | [p, q], _ =>
      have rp := (prem_at hpr 0 p rfl).1 rfl
      have sp := hsz p (by simp)
      have rq := (prem_at hpr 1 q rfl).1 rfl
      have sq := hsz q (by simp)
      rw [f40_ty n c 10 k _ (by omega) (by omega)]
      exact d10_ok hn hK hK1 rp sp rq sq
  · have hr2 : rkids 11 = 1 := by decide
    have hl2 : js.length = 1 := by omega
    match js, hl2 with
    | [p], _ =>
      have rp := (prem_at hpr 0 p rfl).1 rfl
      have sp := hsz p (by simp)
      rw [f40_ty n c 11 k _ (by omega) (by omega)]
      exact d11_ok hn hK hK1 rp sp
  · have hr2 : rkids 12 = 2 := by decide
    have hl2 : js.length = 2 := by omega
    match js, hl2 with
    | [p, q], _ =>
      have rp := (prem_at hpr 0 p rfl).1 rfl
      have sp := hsz p (by simp)
      have rq := (prem_at hpr 1 q rfl).1 rfl
      have sq := hsz q (by simp)
      rw [f40_ty n c 12 k _ (by omega) (by omega)]
      exact d12_ok hn hK hK1 rp sp rq sq
  · have hr2 : rkids 13 = 1 := by decide
    have hl2 : js.length = 1 := by omega
    match js, hl2 with
    | [p], _ =>
      have rp := (prem_at hpr 0 p rfl).1 rfl
      have sp := hsz p (by simp)
      rw [f40_eq n c 13 k _ (by omega)]
      exact d13_ok hn hK hK1 rp sp
  · have hr2 : rkids 14 = 1 := by decide
    have hl2 : js.length = 1 := by omega
    match js, hl2 with
    | [p], _ =>
      have rp := (prem_at hpr 0 p rfl).1 rfl
      have sp := hsz p (by simp)
      rw [f40_eq n c 14 k _ (by omega)]
      exact d14_ok hn hK hK1 rp sp
  · have hr2 : rkids 15 = 2 := by decide
    have hl2 : js.length = 2 := by omega
    match js, hl2 with
    | [p, q], _ =>
      have rp := (prem_at hpr 0 p rfl).1 rfl
      have sp := hsz p (by simp)
      have rq := (prem_at hpr 1 q rfl).1 rfl
      have sq := hsz q (by simp)
      rw [f40_eq n c 15 k _ (by omega)]
      exact d15_ok hn hK hK1 rp sp rq sq
  · have hr2 : rkids 16 = 2 := by decide
    have hl2 : js.length = 2 := by omega
    match js, hl2 with
    | [p, q], _ =>
      have rp := (prem_at hpr 0 p rfl).1 rfl
      have sp := hsz p (by simp)
      have rq := (prem_at hpr 1 q rfl).1 rfl
      have sq := hsz q (by simp)
      rw [f40_eq n c 16 k _ (by omega)]
      exact d16_ok hn hK hK1 rp sp rq sq
  · have hr2 : rkids 17 = 1 := by decide
    have hl2 : js.length = 1 := by omega
    match js, hl2 with
    | [p], _ =>
      have rp := (prem_at hpr 0 p rfl).1 rfl
      have sp := hsz p (by simp)
      rw [f40_eq n c 17 k _ (by omega)]
      exact d17_ok hn hK hK1 rp sp
  · have hr2 : rkids 18 = 2 := by decide
    have hl2 : js.length = 2 := by omega
    match js, hl2 with
    | [p, q], _ =>
      have rp := (prem_at hpr 0 p rfl).1 rfl
      have sp := hsz p (by simp)
      have rq := (prem_at hpr 1 q rfl).2 rfl
      have sq := hsz q (by simp)
      have ee := prem_entry hpr 1 q rfl rfl
      have ep : p.eq = false := by have h : (p.eq == false) = true := ee; simpa using h
      rw [f40_re n c 18 k _ (by omega) (by omega)]
      exact d18_ok hn hK hK1 rp sp rq sq ep
  · have hr2 : rkids 19 = 3 := by decide
    have hl2 : js.length = 3 := by omega
    match js, hl2 with
    | [p, q, s], _ =>
      have rp := (prem_at hpr 0 p rfl).1 rfl
      have sp := hsz p (by simp)
      have rq := (prem_at hpr 1 q rfl).2 rfl
      have sq := hsz q (by simp)
      have rs := (prem_at hpr 2 s rfl).1 rfl
      have ss := hsz s (by simp)
      have ee := prem_entry hpr 1 q rfl rfl
      rw [f40_re n c 19 k _ (by omega) (by omega)]
      exact d19_ok hn hK hK1 rp sp rq sq rs ss
  · have hr2 : rkids 20 = 3 := by decide
    have hl2 : js.length = 3 := by omega
    match js, hl2 with
    | [p, q, s], _ =>
      have rp := (prem_at hpr 0 p rfl).1 rfl
      have sp := hsz p (by simp)
      have rq := (prem_at hpr 1 q rfl).2 rfl
      have sq := hsz q (by simp)
      have rs := (prem_at hpr 2 s rfl).1 rfl
      have ss := hsz s (by simp)
      have ee := prem_entry hpr 1 q rfl rfl
      rw [f40_re n c 20 k _ (by omega) (by omega)]
      exact d20_ok hn hK hK1 rp sp rq sq rs ss
  · have hr2 : rkids 21 = 1 := by decide
    have hl2 : js.length = 1 := by omega
    match js, hl2 with
    | [p], _ =>
      have rp := (prem_at hpr 0 p rfl).1 rfl
      have sp := hsz p (by simp)
      rw [f40_re n c 21 k _ (by omega) (by omega)]
      exact d21_ok hn hK hK1 rp sp
  · have hr2 : rkids 22 = 1 := by decide
    have hl2 : js.length = 1 := by omega
    match js, hl2 with
    | [p], _ =>
      have rp := (prem_at hpr 0 p rfl).1 rfl
      have sp := hsz p (by simp)
      rw [f40_re n c 22 k _ (by omega) (by omega)]
      exact d22_ok hn hK hK1 rp sp
  · have hr2 : rkids 23 = 2 := by decide
    have hl2 : js.length = 2 := by omega
    match js, hl2 with
    | [p, q], _ =>
      have rp := (prem_at hpr 0 p rfl).1 rfl
      have sp := hsz p (by simp)
      have rq := (prem_at hpr 1 q rfl).2 rfl
      have sq := hsz q (by simp)
      have ee := prem_entry hpr 1 q rfl rfl
      have ep : p.eq = true := by have h : (p.eq == true) = true := ee; simpa using h
      rw [f40_eq n c 23 k _ (by omega)]
      exact d23_ok hn hK hK1 rp sp rq sq ep
  · have hr2 : rkids 24 = 2 := by decide
    have hl2 : js.length = 2 := by omega
    match js, hl2 with
    | [p, q], _ =>
      have rp := (prem_at hpr 0 p rfl).1 rfl
      have sp := hsz p (by simp)
      have rq := (prem_at hpr 1 q rfl).1 rfl
      have sq := hsz q (by simp)
      rw [f40_eq n c 24 k _ (by omega)]
      exact d24_ok hn hK hK1 rp sp rq sq
  · have hr2 : rkids 25 = 2 := by decide
    have hl2 : js.length = 2 := by omega
    match js, hl2 with
    | [p, q], _ =>
      have rp := (prem_at hpr 0 p rfl).1 rfl
      have sp := hsz p (by simp)
      have rq := (prem_at hpr 1 q rfl).2 rfl
      have sq := hsz q (by simp)
      have ee := prem_entry hpr 1 q rfl rfl
      have ep : typedB p true = true := ee
      rw [f40_bi n c 25 k _ (by omega) (by omega)]
      exact d25_ok hn hK hK1 rp sp rq sq ep
  · have hr2 : rkids 26 = 2 := by decide
    have hl2 : js.length = 2 := by omega
    match js, hl2 with
    | [p, q], _ =>
      have rp := (prem_at hpr 0 p rfl).1 rfl
      have sp := hsz p (by simp)
      have rq := (prem_at hpr 1 q rfl).2 rfl
      have sq := hsz q (by simp)
      have ee := prem_entry hpr 1 q rfl rfl
      have ep : typedB p true = true := ee
      rw [f40_bi n c 26 k _ (by omega) (by omega)]
      exact d26_ok hn hK hK1 rp sp rq sq ep
  · have hr2 : rkids 27 = 3 := by decide
    have hl2 : js.length = 3 := by omega
    match js, hl2 with
    | [p, q, s], _ =>
      have rp := (prem_at hpr 0 p rfl).1 rfl
      have sp := hsz p (by simp)
      have rq := (prem_at hpr 1 q rfl).2 rfl
      have sq := hsz q (by simp)
      have rs := (prem_at hpr 2 s rfl).2 rfl
      have ss := hsz s (by simp)
      have ee := prem_entry hpr 1 q rfl rfl
      have ep : typedB p true = true := ee
      rw [f40_bi n c 27 k _ (by omega) (by omega)]
      exact d27_ok hn hK hK1 rp sp rq sq rs ss ep
  · have hr2 : rkids 28 = 4 := by decide
    have hl2 : js.length = 4 := by omega
    match js, hl2 with
    | [p, q, s, t], _ =>
      have rp := (prem_at hpr 0 p rfl).1 rfl
      have sp := hsz p (by simp)
      have rq := (prem_at hpr 1 q rfl).2 rfl
      have sq := hsz q (by simp)
      have rs := (prem_at hpr 2 s rfl).1 rfl
      have ss := hsz s (by simp)
      have rt := (prem_at hpr 3 t rfl).1 rfl
      have st := hsz t (by simp)
      have ee := prem_entry hpr 1 q rfl rfl
      have ep : typedB p true = true := ee
      rw [f40_bi n c 28 k _ (by omega) (by omega)]
      exact d28_ok hn hK hK1 rp sp rq sq rs ss rt st ep
/-- What the document's Of makes of a conclusion. -/
theorem fin10 {n : Nat} {c : List Ent} {r k : Int} {js : List Jd} (hn : 20000000 < n) (hs : Sized c js) (ho : ofOk c r js = true) :
    ((f40 n c r k js).bind fun x7 => if (!x7.2) = true then some (zeroJ, false) else (f41 x7.1.i).bind fun x8 => if (!x8) = true then some (zeroJ, false) else (f42 x7.1.a).bind fun x9 => if (!x9) = true then some (zeroJ, false) else some (x7.1, true)) = some (outP (ofP c r k js)) := by
  obtain ⟨J, b, h1, h2⟩ := f40_ok (k := k) hn hs.len hs.all hs.jz ho
  obtain ⟨J', b', q1, q2, q3, q4⟩ := conc_ok (k := k) hn hs.len hs.all hs.each hs.jz ho
  rw [h1, Option.bind_some]
  unfold ofP
  rw [ho, if_pos rfl, h2]
  cases b with
  | false => rfl
  | true =>
    rw [if_neg (by simp), if_pos rfl, f41_eq, Option.bind_some]
    by_cases hi : J.i ≤ 1000
    · rw [q2] at h2
      have hb' : b' = true := by cases b' with
        | true => rfl
        | false => simp at h2
      subst hb'
      simp only [if_true, Option.some.injEq] at h2
      subst h2
      obtain ⟨g1, _⟩ := q4 rfl hi
      have hp := rightJ_Pr g1
      have hl := hp.i
      dsimp only
      rw [hl, if_neg (by simp), if_pos hi]
      have h42 : f42 J'.a = some true := by
        simp only [f42, o42_0, ifB_eq]
        by_cases hk1 : J'.a.kind = 1
        · rw [if_neg (by simp [hk1]), f41_eq, Option.bind_some]
          obtain ⟨_, n1, n2⟩ := node_sort (marked_node (pure_marked (pf_pure hp.a))) hk1
          rw [lev_of n1 n2]
        · rw [if_pos (by simp [hk1])]
      rw [h42, Option.bind_some]
      rfl
    · have hl : lev J.i = false := by unfold lev; rw [decide_eq_false hi]; simp
      dsimp only
      rw [hl, if_pos (by rfl), if_neg hi]
      rfl
theorem l10_ok {n : Nat} {c : List Ent} {r k : Int} {js : List Jd} (j0 : Jd) (hn : 20000000 < n) (hs : Sized c js) (hc : pureC c = true) (hk : rkids r = (js.length : Int)) (hj0 : js = [] ∨ js[0]? = some j0) : ∀ (rest pre : List Jd) (m : Nat), js = pre ++ rest → rest.length < m → (pre = [] ∨ rightJ (c.length : Int) j0 = true) → (premOk c r j0 pre.length rest = true → ofOk c r js = true) →
    l10_2 n m c r k js false 0 0 0 0 0 0 0 0 0 0 0 0 0 (pre.length : Int) = if premOk c r j0 pre.length rest = true then some (outP (ofP c r k js)) else some (zeroJ, false) := by
  have hB := BIG_eq
  have hall := hs.all
  have hjl := hs.jl
  intro rest
  induction rest with
  | nil =>
    intro pre m h hm _ hof
    obtain ⟨m, rfl⟩ := fuel hm
    simp only [l10_2, o10_2, decide_eq_true_eq, ifB_eq, tz_eq, zj_eq]
    have hp : premOk c r j0 pre.length [] = true := rfl
    rw [if_neg (ge_at h), if_pos hp]
    exact fin10 hn hs (hof hp)
  | cons x rest ih =>
    intro pre m h hm hp0 hof
    obtain ⟨m, rfl⟩ := fuel hm
    simp only [List.length_cons] at hm
    have hlt := len_of_eq h
    have hxm : x ∈ js := by rw [h]; simp
    have hxs := hs.jz x hxm
    have h0' : js[0]? = some j0 := by
      rcases hj0 with hh | hh
      · rw [hh] at h; simp at h
      · exact hh
    obtain ⟨js', hjs'⟩ : ∃ js', js = j0 :: js' := by
      cases hjj : js with
      | nil => rw [hjj] at h0'; simp at h0'
      | cons y ys => rw [hjj] at h0'; simp at h0'; exact ⟨ys, by rw [h0']⟩
    have hnext : (pre = [] ∨ rightJ (c.length : Int) j0 = true) → ((rinner r (pre.length : Nat) = true) ∨ rightJ (c.length : Int) x = true) → rightJ (c.length : Int) j0 = true := by
      rintro (h1 | h1) h2
      · subst h1
        rw [h] at h0'
        simp at h0'
        subst h0'
        rcases h2 with h2 | h2
        · have := rinner_zero r
          simp at h2
          rw [this] at h2; cases h2
        · exact h2
      · exact h1
    have hP : premOk c r j0 pre.length (x :: rest) = ((if rinner r (pre.length : Nat) = true then (entryJ r j0).2 && rightJ ((c.length : Int) + 1) x else rightJ (c.length : Int) x) && premOk c r j0 (pre.length + 1) rest) := rfl
    have hg : ¬ (pureC c = false ∨ (pre.length : Int) < 0 ∨ rkids r ≤ (pre.length : Int)) := by
      rw [hc]
      rintro (h1 | h1 | h1)
      · cases h1
      · omega
      · omega
    simp only [l10_2, o10_2, decide_eq_true_eq, ifB_eq, tz_eq, zj_eq]
    rw [if_pos (lt_at h), f38_ok n c r _ js (by omega) (by omega) (fun j hj => by have := hs.jz j hj; omega), Option.bind_some]
    have hr39 : ∀ K : Int, f39 n K x = some (rightJ K x) := fun K => f39_ok n x K (by omega) (by omega)
    rw [hP] at hof ⊢
    by_cases hi : rinner r (pre.length : Int) = true
    case neg =>
      have hi' : rinner r (pre.length : Int) = false := by simpa using hi
      have hpc : premC c r (pre.length : Int) js = (c, true) := by
        unfold premC
        rw [if_neg hg, if_pos hi']
      rw [if_neg hi] at hof ⊢
      rw [hpc, if_neg (by simp), atI_at h]
      dsimp only
      rw [hr39, Option.bind_some]
      cases hx : rightJ (c.length : Int) x with
      | false => rw [if_pos (by rfl), if_neg (by simp)]
      | true =>
        rw [hx] at hof
        rw [if_neg (by simp), ckI_eq (by omega), Bool.true_and]
        have := ih (pre ++ [x]) m (next_at h) (by omega) (.inr (hnext hp0 (.inr hx))) (by rw [List.length_append]; simpa using hof)
        rw [len_snoc, List.length_append] at this
        exact this
    case pos =>
      have hr0 := hnext hp0 (.inl hi)
      rw [if_pos hi] at hof ⊢
      cases he : (entryJ r j0).2 with
      | false =>
        have hpc : premC c r (pre.length : Int) js = ([], false) := by
          unfold premC
          rw [if_neg hg, if_neg (by simp [hi]), hjs']
          show (if rightJ (c.length : Int) j0 = false ∨ (entryJ r j0).2 = false then (([] : List Ent), false) else (c ++ [(entryJ r j0).1], true)) = _
          rw [if_pos (.inr he)]
        rw [hpc, if_pos (by rfl), if_neg (by simp)]
      | true =>
        have hpc : premC c r (pre.length : Int) js = (c ++ [(entryJ r j0).1], true) := by
          unfold premC
          rw [if_neg hg, if_neg (by simp [hi]), hjs']
          show (if rightJ (c.length : Int) j0 = false ∨ (entryJ r j0).2 = false then (([] : List Ent), false) else (c ++ [(entryJ r j0).1], true)) = _
          rw [if_neg (by rw [hr0, he]; simp)]
        rw [he] at hof
        rw [hpc, if_neg (by simp), atI_at h]
        dsimp only
        rw [hr39, Option.bind_some]
        have hlen : (((c ++ [(entryJ r j0).1]).length : Nat) : Int) = (c.length : Int) + 1 := by simp
        rw [hlen]
        cases hx : rightJ ((c.length : Int) + 1) x with
        | false => rw [if_pos (by rfl), if_neg (by simp)]
        | true =>
          rw [hx] at hof
          rw [if_neg (by simp), ckI_eq (by omega), Bool.true_and, Bool.true_and]
          have := ih (pre ++ [x]) m (next_at h) (by omega) (.inr hr0) (by rw [List.length_append]; simpa using hof)
          rw [len_snoc, List.length_append] at this
          exact this
/-- The document's Of. -/
theorem f10_ok {n : Nat} {c : List Ent} {r k : Int} {js : List Jd} (hn : 20000000 < n) (hs : Sized c js) : f10 n c r k js = some (outP (ofP c r k js)) := by
  have hB := BIG_eq
  have hall := hs.all
  have hjl := hs.jl
  have h0 : js = [] ∨ js[0]? = some (js.headD zeroJ) := by
    cases js with
    | nil => exact .inl rfl
    | cons x r => exact .inr rfl
  have hno : ofOk c r js = false → (some (zeroJ, false) : Option (Jd × Bool)) = some (outP (ofP c r k js)) := fun h => by
    unfold ofP
    rw [h]; rfl
  unfold f10
  simp only [o10_0, decide_eq_true_eq, ifB_eq, tz_eq, zj_eq]
  rw [f36_ok n c (by omega) (by omega), Option.bind_some]
  cases hc : pureC c with
  | false => rw [if_pos (by rfl)]; exact hno (by unfold ofOk; rw [hc]; rfl)
  | true =>
  rw [if_neg (by simp), f37_eq, Option.bind_some]
  by_cases h1 : rkids r < 0
  · rw [if_pos h1]
    exact hno (by unfold ofOk; rw [decide_eq_false (show ¬ rkids r = (js.length : Int) by omega)]; simp)
  rw [if_neg h1, Option.bind_some]
  by_cases h2 : rkids r = (js.length : Int)
  case neg =>
    rw [if_pos (by simp; omega)]
    exact hno (by unfold ofOk; rw [decide_eq_false h2]; simp)
  rw [if_neg (by simp [h2])]
  simp only [c10_1, o10_1]
  have hof : premOk c r (js.headD zeroJ) ([] : List Jd).length js = true → ofOk c r js = true := fun h => by
    unfold ofOk
    rw [hc, decide_eq_true h2]
    exact h
  have := l10_ok (k := k) (js.headD zeroJ) hn hs hc h2 h0 js [] n rfl (by omega) (.inl rfl) hof
  rw [len_nil] at this
  rw [this]
  by_cases hp : premOk c r (js.headD zeroJ) ([] : List Jd).length js = true
  · rw [if_pos hp]
  · rw [if_neg hp]
    refine hno ?_
    cases ho : ofOk c r js with
    | false => rfl
    | true => exact (hp (ofOk_of ho).2.2).elim
end Go.Proofs.YtcaahmielncmpaaGreat
