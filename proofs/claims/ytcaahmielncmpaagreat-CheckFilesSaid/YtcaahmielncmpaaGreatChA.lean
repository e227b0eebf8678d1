/-
  Plain facts on what the functions compute.
-/
import Derived.Test.YtcaahmielncmpaaGreatRuJ
import Derived.Test.YtcaahmielncmpaaGreatGenH
set_option linter.unusedSimpArgs false
set_option linter.unusedVariables false
namespace Go.Proofs.YtcaahmielncmpaaGreat
open Go
set_option maxRecDepth 20000

/-- A fault's path is no longer than the derivation. -/
theorem jgs_err {m : Nat} {c : List Ent} {r : Int} {w : Nat} : ∀ {ds : List Dv} {on : List Jd} {x : Int} {b : List Int}, (∀ d ∈ ds, ∀ e x b, jg m e d = .error (x, b) → b.length < w ∧ (x = 3 ∨ x = 4)) → jgs m c r on ds = .error (x, b) → b.length < w + 1 ∧ (x = 3 ∨ x = 4)
  | [], on, x, b, _, h => by rw [jgs] at h; cases h
  | d :: ds, on, x, b, hd, h => by
    rw [jgs] at h
    split at h
    · cases h
      exact ⟨by simp, .inl rfl⟩
    · split at h
      · rename_i x' b' hx
        cases h
        have := hd d (by simp) _ _ _ hx
        exact ⟨by simp; omega, this.2⟩
      · exact jgs_err (fun d hd' => hd d (by simp [hd'])) h
theorem jg_err {m : Nat} : ∀ (w : Nat) (d : Dv) (c : List Ent) (x : Int) (b : List Int), d.size ≤ w → jg m c d = .error (x, b) → b.length < w ∧ (x = 3 ∨ x = 4)
  | 0, d, c, x, b, hd, _ => by have := Dv.size_pos d; omega
  | w + 1, d, c, x, b, hd, h => by
    rw [jg_eq] at h
    split at h
    · rename_i f hf
      cases h
      exact jgs_err (w := w) (fun k hk e x b hx => by have := jg_err w k e x b (by have := Dv.size_kid hk; omega) hx; exact this) hf
    · split at h
      · cases h; exact ⟨by simp, .inl rfl⟩
      · split at h
        · cases h
        · cases h; exact ⟨by simp, .inr rfl⟩
theorem room8 {n : Nat} (h : n ≤ 100000) : (decide ((n + 1) * 8 ≤ 140737488355328) && decide (n + 1 ≤ 9223372036854775807)) = true := by
  simp only [Bool.and_eq_true, decide_eq_true_eq]; omega
theorem c47_2_ok (s : List Ent → Dv → Nat → Option (Jd × Option (Int × List Int))) (n m : Nat) (z0 : Bool) (z1 z2 z3 z4 z5 z6 z7 z8 z9 z10 z11 z12 z13 : Int) (J : Jd) (k : Int) :
    c47_2 s n m z0 z1 z2 z3 z4 z5 z6 z7 z8 z9 z10 z11 z12 z13 J k = some (if fLe (fOf k) m = true then (J, none) else (zeroJ, some (4, []))) := by
  unfold c47_2 o47_2
  simp only [f84, o84_0, Option.bind_some, ifB_eq, tz_eq, zj_eq]
  cases fLe (fOf k) m <;> rfl
theorem lj118_ok (s : List Ent → Dv → Nat → Option (Jd × Option (Int × List Int))) {n m : Nat} {c : List Ent} {d : Dv} {w : Nat} (hm : Held m) (hn : 20000000 < n) (hb : Bd c (w + 1)) (hw : d.size ≤ w + 1) (hw1 : w ≤ 800)
    (z0 : Bool) (z1 z2 z3 z4 z5 z6 z7 z8 z9 z10 z11 z12 z13 : Int) (hs : ∀ k ∈ d.kids, ∀ e, Bd e w → s e k m = some (jout (jg m e k))) : ∀ (rest pre : List Dv) (fu : Nat) (on : List Jd), d.kids = pre ++ rest → rest.length < fu → on.length = pre.length → (∀ j ∈ on, jsz j ≤ 1002) →
    l47_1 s n fu c m d z0 z1 z2 z3 z4 z5 z6 z7 z8 z9 z10 z11 z12 z13 on d.kids (d.kids.length : Int) (pre.length : Int) = some (jout (match jgs m c d.rule on rest with
      | .error f => .error f
      | .ok on' => jfin m c d.rule d.i on')) := by
  have hkl := Dv.len_kids d
  have hcl : csize c ≤ 1000000 := by have := hb.2.1; omega
  intro rest
  induction rest with
  | nil =>
    intro pre fu on hk hf hl hj
    obtain ⟨fu, rfl⟩ := fuel hf
    have hpl : pre.length ≤ 800 := by have : d.kids.length = pre.length := by rw [hk]; simp
                                      omega
    simp only [l47_1, o47_1, decide_eq_true_eq, ifB_eq]
    rw [if_neg (ge_at hk), jgs]
    have hsz := hb.sized hj (by omega)
    obtain ⟨h1, h2⟩ := f9_ex (n := n) (r := d.rule) (k := d.i) (by omega) hsz
    unfold jfin
    dsimp only
    cases ho : ofP c d.rule d.i on with
    | none =>
      rw [ho] at h1
      have h1 : f9 n c d.rule d.i on = some (zeroJ, false) := h1
      rw [h1, Option.bind_some]
      exact (if_pos (show (!((zeroJ, false) : Jd × Bool).2) = true from rfl)).trans rfl
    | some J =>
      rw [ho] at h1
      have h1 : f9 n c d.rule d.i on = some (J, true) := h1
      rw [h1, Option.bind_some]
      obtain ⟨g1, _, g3, _⟩ := h2 J ho
      have hB := BIG_eq
      have hms := meas_le g1
      unfold jsz at g3 hms
      rw [if_neg (by simp)]
      dsimp only
      rw [f83_ok n J.u (by omega) (by omega), Option.bind_some, f83_ok n J.a (by omega) (by omega), Option.bind_some, ckI_eq (by omega)]
      have hfin : ∀ k : Int, k = (meas J : Int) → c47_2 s n m z0 z1 z2 z3 z4 z5 z6 z7 z8 z9 z10 z11 z12 z13 J k = some (jout (if fLe (fOf (meas J)) m = true then .ok J else .error (4, []))) := by
        intro k hk
        subst hk
        rw [c47_2_ok]
        cases fLe (fOf (meas J)) m <;> rfl
      cases he : J.eq with
      | true =>
        rw [if_pos rfl, f83_ok n J.v (by omega) (by omega), Option.bind_some, ckI_eq (by omega)]
        exact hfin _ (by unfold meas; rw [he, if_pos rfl]; simp)
      | false =>
        rw [if_neg (by simp)]
        exact hfin _ (by unfold meas; rw [he, if_neg (by simp)]; simp)
  | cons k rest ih =>
    intro pre fu on hk hf hl hj
    obtain ⟨fu, rfl⟩ := fuel hf
    simp only [List.length_cons] at hf
    have hlt := len_of_eq hk
    have hp : on.length ≤ 800 := by omega
    have hpB : pre.length ≤ BIG := by rw [BIG_eq]; omega
    have hB := BIG_eq
    have hkm : k ∈ d.kids := by rw [hk]; simp
    simp only [l47_1, o47_1, decide_eq_true_eq, ifB_eq, tz_eq, zj_eq]
    rw [if_pos (lt_at hk), atI_at hk, f44_ok n c d.rule _ on (by omega) (by omega) (fun j hj' => by have := hj j hj'; omega), Option.bind_some, jgs, ← hl]
    cases hpc : premC c d.rule (on.length : Int) on with
    | mk e b =>
      cases b with
      | false => rw [if_pos (by rfl)]; rfl
      | true =>
        have hbe := premC_bd hb hj hpc
        rw [if_neg (by simp)]
        dsimp only
        rw [hs k hkm e hbe, Option.bind_some]
        cases hg : jg m e k with
        | error f =>
          obtain ⟨x, b⟩ := f
          have := jg_err _ k e x b (Nat.le_refl _) hg
          have hks := Dv.size_kid hkm
          simp only [jout, Option.isSome_some, if_true, thO]
          rw [ckB_eq (by simpa using room8 (show b.length ≤ 100000 by omega))]
        | ok J =>
          have hJ := jg_ok hm w k e J (by have := Dv.size_kid hkm; omega) hbe hg
          simp only [jout, Option.isSome_none, Bool.false_eq_true, if_false, jd_eta, Jd.eta]
          rw [ckB_eq (by simpa using room184 (show on.length ≤ BIG / 2 by omega)), hl, ckI_eq (idx_ok hpB)]
          have := ih (pre ++ [k]) fu (on ++ [J]) (next_at hk) (by omega) (by simp [hl]) (fun j hj' => by
            rcases List.mem_append.1 hj' with hj' | hj'
            · exact hj j hj'
            · simp only [List.mem_singleton] at hj'
              subst hj'; omega)
          rw [len_snoc] at this
          exact this
theorem f47_ok {m : Nat} (hm : Held m) : ∀ (w n : Nat) (d : Dv) (c : List Ent), d.size ≤ w → w ≤ 801 → 20000000 + w < n → Bd c w → f47 n c d m = some (jout (jg m c d))
  | 0, n, d, c, hd, _, _, _ => by have := Dv.size_pos d; omega
  | w + 1, n, d, c, hd, hw, hn, hb => by
    obtain ⟨n, rfl⟩ := fuel hn
    have hkl := Dv.len_kids d
    unfold f47
    simp only [o47_0]
    rw [ckB_eq (by simp; omega)]
    have := lj118_ok (f47 n) (n := n) hm (by omega) hb hd (by omega) false 0 0 0 0 0 0 0 0 0 0 0 0 0 (fun k hk e he => f47_ok hm w n k e (by have := Dv.size_kid hk; omega) (by omega) (by omega) he) d.kids [] n [] rfl (by omega) rfl (fun j hj => by cases hj)
    rw [len_nil] at this
    rw [jg_eq]
    exact this
end Go.Proofs.YtcaahmielncmpaaGreat
