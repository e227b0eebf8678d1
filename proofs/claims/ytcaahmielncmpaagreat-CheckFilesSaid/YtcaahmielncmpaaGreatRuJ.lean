/-
  Plain facts on what the functions compute.
-/
import Derived.Test.YtcaahmielncmpaaGreatRuI
import Derived.Test.YtcaahmielncmpaaGreatPlT
set_option linter.unusedSimpArgs false
set_option linter.unusedVariables false
namespace Go.Proofs.YtcaahmielncmpaaGreat
open Go
set_option maxRecDepth 20000

/-- What rule.Of concludes. -/
def ofP (c : List Ent) (r k : Int) (js : List Jd) : Option Jd :=
  if ofOk c r js = true then (match concl c r k js with
    | some J => if J.i ≤ 1000 then some J else none
    | none => none) else none
def outP (o : Option Jd) : Jd × Bool := match o with
  | some J => (J, true)
  | none => (zeroJ, false)
structure Sized (c : List Ent) (js : List Jd) : Prop where
  len : c.length ≤ 900
  all : csize c ≤ 1000000
  each : ∀ e ∈ c, e.a.size ≤ 1002
  jz : ∀ j ∈ js, jsz j ≤ 1002
  jl : js.length ≤ 1000
theorem f9_ex {n : Nat} {c : List Ent} {r k : Int} {js : List Jd} (hn : 20000000 < n) (h : Sized c js) : f9 n c r k js = some (outP (ofP c r k js)) ∧
    ∀ J, ofP c r k js = some J → rightJ (c.length : Int) J = true ∧ J.eq = (decide (13 ≤ r) && decide (r ≤ 28)) ∧ jsz J ≤ 10000000 ∧ concl c r k js = some J ∧ ofOk c r js = true := by
  obtain ⟨h1, h2, h3, h4, h5⟩ := h
  have hB : csize c ≤ BIG := by rw [BIG_eq]; omega
  have hs : ∀ j ∈ js, jsz j < n ∧ jsz j ≤ BIG := fun j hm => by
    have := h4 j hm
    rw [BIG_eq]; omega
  have hf := f9_ok n c r k js (by omega) hB (by rw [BIG_eq]; omega) (by omega) hs
  cases ho : ofOk c r js with
  | false =>
    rw [ho, if_neg (by simp)] at hf
    have e : ofP c r k js = none := by unfold ofP; rw [ho]; rfl
    rw [e]
    exact ⟨hf, fun J h => by cases h⟩
  | true =>
    obtain ⟨J, b, q1, q2, q3, q4⟩ := conc_ok (k := k) hn h1 h2 h3 h4 ho
    have hff := f9_fin n c r k js J b (by omega) hB (by rw [BIG_eq]; omega) (by omega) hs (fun _ => q1) (by rw [BIG_eq]; omega)
    rw [hff, ho]
    unfold ofP
    rw [ho, if_pos rfl, q2]
    cases b with
    | false => exact ⟨by simp [outP], fun J h => by simp at h⟩
    | true =>
      by_cases hi : J.i ≤ 1000
      · simp only [hi, Bool.true_and, decide_true, if_true]
        refine ⟨rfl, fun J' hJ => ?_⟩
        cases hJ
        obtain ⟨g1, g2⟩ := q4 rfl hi
        exact ⟨g1, g2, q3, by simp, trivial⟩
      · simp only [hi, Bool.true_and, decide_false, if_true, if_false]
        exact ⟨rfl, fun J h => by cases h⟩

/-! ## Whole derivations -/
def meas (J : Jd) : Nat := J.u.size + J.a.size + (if J.eq = true then J.v.size else 0)
mutual
def jg (m : Nat) : List Ent → Dv → Except (Int × List Int) Jd
  | c, .mk r i ks => match jgs m c r [] ks with
    | .error f => .error f
    | .ok on => match ofP c r i on with
      | none => .error (3, [])
      | some J => if fLe (fOf (meas J)) m = true then .ok J else .error (4, [])
def jgs (m : Nat) : List Ent → Int → List Jd → List Dv → Except (Int × List Int) (List Jd)
  | _, _, on, [] => .ok on
  | c, r, on, d :: ds => match premC c r (on.length : Int) on with
    | (_, false) => .error (3, [])
    | (e, true) => match jg m e d with
      | .error (x, b) => .error (x, b ++ [(on.length : Int)])
      | .ok J => jgs m c r (on ++ [J]) ds
end
theorem jg_eq (m : Nat) (c : List Ent) (d : Dv) : jg m c d = match jgs m c d.rule [] d.kids with
    | .error f => .error f
    | .ok on => match ofP c d.rule d.i on with
      | none => .error (3, [])
      | some J => if fLe (fOf (meas J)) m = true then .ok J else .error (4, []) := by cases d; rw [jg]; rfl
def jout : Except (Int × List Int) Jd → Jd × Option (Int × List Int)
  | .ok J => (J, none)
  | .error f => (zeroJ, some f)
def jfin (m : Nat) (c : List Ent) (r i : Int) (on : List Jd) : Except (Int × List Int) Jd := match ofP c r i on with
  | none => .error (3, [])
  | some J => if fLe (fOf (meas J)) m = true then .ok J else .error (4, [])
/-- The allowance is so held that what is within it is small. -/
def Held (m : Nat) : Prop := ∀ a : Nat, a ≤ 30000000 → fLe (fOf a) m = true → a ≤ 1000
def Bd (c : List Ent) (w : Nat) : Prop := c.length + w ≤ 900 ∧ csize c + 1010 * w ≤ 1000000 ∧ ∀ e ∈ c, e.a.size ≤ 1002
theorem premC_bd {c : List Ent} {r k : Int} {js : List Jd} {e : List Ent} {w : Nat} (hb : Bd c (w + 1)) (hj : ∀ j ∈ js, jsz j ≤ 1002) (h : premC c r k js = (e, true)) : Bd e w := by
  obtain ⟨h1, h2, h3⟩ := hb
  unfold premC at h
  by_cases g1 : pureC c = false ∨ k < 0 ∨ rkids r ≤ k
  · rw [if_pos g1] at h; cases h
  rw [if_neg g1] at h
  by_cases g2 : rinner r k = false
  · rw [if_pos g2] at h; cases h; exact ⟨by omega, by omega, h3⟩
  rw [if_neg g2] at h
  match js, hj, h with
  | j :: js, hj, h =>
    have hjs := hj j (by simp)
    unfold jsz at hjs
    have h : (if rightJ (c.length : Int) j = false ∨ (entryJ r j).2 = false then (([] : List Ent), false) else (c ++ [(entryJ r j).1], true)) = (e, true) := h
    by_cases g3 : rightJ (c.length : Int) j = false ∨ (entryJ r j).2 = false
    · rw [if_pos g3] at h; cases h
    rw [if_neg g3] at h
    cases h
    have : (entryJ r j).1.a.size ≤ j.u.size + j.v.size + j.a.size := by
      unfold entryJ
      by_cases h1 : r = 3 ∨ r = 6 ∨ r = 4
      · rw [if_pos h1]; show j.u.size ≤ _; omega
      rw [if_neg h1]
      by_cases h2 : r = 25 ∨ r = 26 ∨ r = 27 ∨ r = 28
      · rw [if_pos h2]; show j.u.size ≤ _; omega
      · rw [if_neg h2]; show j.a.size ≤ _; omega
    refine ⟨by simp only [List.length_append, List.length_cons, List.length_nil]; omega, by rw [csize_append]; simp only [csize]; omega, fun x hx => ?_⟩
    rcases List.mem_append.1 hx with hx | hx
    · exact h3 x hx
    · simp only [List.mem_singleton] at hx
      subst hx; omega
theorem isZ_size {t : Tm} (h : isZ t = true) : t.size = 1 := by
  unfold isZ at h
  simp only [Bool.and_eq_true, decide_eq_true_eq] at h
  have : t.kids = [] := List.length_eq_zero_iff.1 (by omega)
  rw [Tm.size_eq, this]; rfl
theorem meas_le {K : Int} {J : Jd} (h : rightJ K J = true) : meas J ≤ jsz J ∧ jsz J ≤ meas J + 1 := by
  unfold meas jsz
  cases he : J.eq with
  | true => simp; omega
  | false =>
    unfold rightJ at h
    simp only [Bool.and_eq_true] at h
    have := h.2.2.2
    rw [he, if_neg (by simp)] at this
    have := isZ_size this
    simp; omega
theorem jfin_ok {m : Nat} (hm : Held m) {c : List Ent} {r i : Int} {on : List Jd} {J : Jd} (hs : Sized c on) (h : jfin m c r i on = .ok J) : jsz J ≤ 1001 ∧ ofP c r i on = some J := by
  unfold jfin at h
  split at h
  · cases h
  · rename_i J' hJ
    split at h
    · rename_i hle
      cases h
      obtain ⟨h1, _, h3, _⟩ := (f9_ex (n := 20000001) (by omega) hs).2 J hJ
      have := meas_le h1
      have := hm (meas J) (by omega) hle
      exact ⟨by omega, hJ⟩
    · cases h
/-- Sizes of all that is judged. -/
theorem jgs_ok {m : Nat} (hm : Held m) {c : List Ent} {w : Nat} {r : Int} : ∀ {ds : List Dv} {on on' : List Jd}, Bd c (w + 1) → (∀ d ∈ ds, ∀ e J, Bd e w → jg m e d = .ok J → jsz J ≤ 1002) → (∀ j ∈ on, jsz j ≤ 1002) → jgs m c r on ds = .ok on' → (∀ j ∈ on', jsz j ≤ 1002) ∧ on'.length = on.length + ds.length
  | [], on, on', hb, _, ho, h => by
    rw [jgs] at h
    cases h
    exact ⟨ho, rfl⟩
  | d :: ds, on, on', hb, hd, ho, h => by
    rw [jgs] at h
    split at h
    · cases h
    · rename_i e he
      split at h
      · cases h
      · rename_i J hJ
        have h1 := hd d (by simp) e J (premC_bd hb ho he) hJ
        obtain ⟨h2, h3⟩ := jgs_ok hm hb (fun d hd' => hd d (by simp [hd'])) (fun j hj => by
          rcases List.mem_append.1 hj with hj | hj
          · exact ho j hj
          · simp only [List.mem_singleton] at hj
            subst hj; exact h1) h
        exact ⟨h2, by rw [h3]; simp; omega⟩
theorem Bd.le {c : List Ent} {w w' : Nat} (h : Bd c w) (hw : w' ≤ w) : Bd c w' := ⟨by have := h.1; omega, by have := h.2.1; omega, h.2.2⟩
theorem Bd.sized {c : List Ent} {w : Nat} {js : List Jd} (h : Bd c w) (hj : ∀ j ∈ js, jsz j ≤ 1002) (hl : js.length ≤ 1000) : Sized c js := ⟨by have := h.1; omega, by have := h.2.1; omega, h.2.2, hj, hl⟩
theorem jg_ok {m : Nat} (hm : Held m) : ∀ (w : Nat) (d : Dv) (c : List Ent) (J : Jd), d.size ≤ w → Bd c w → jg m c d = .ok J → jsz J ≤ 1001
  | 0, d, c, J, hd, _, _ => by have := Dv.size_pos d; omega
  | w + 1, d, c, J, hd, hb, h => by
    rw [jg_eq] at h
    split at h
    · cases h
    · rename_i on hon
      obtain ⟨h1, h2⟩ := jgs_ok hm hb (fun k hk e J' he hJ => by have := jg_ok hm w k e J' (by have := Dv.size_kid hk; omega) he hJ; omega) (fun j hj => by cases hj) hon
      have hl := Dv.len_kids d
      have := hb.1
      exact (jfin_ok hm (r := d.rule) (i := d.i) (hb.sized h1 (by simp at h2; omega)) h).1
end Go.Proofs.YtcaahmielncmpaaGreat
