/-
  Plain facts on what the functions compute.
-/
import Derived.Test.YtcaahmielncmpaaGreatChB
import Derived.Test.YtcaahmielncmpaaGreatRuL
set_option linter.unusedSimpArgs false
set_option linter.unusedVariables false
namespace Go.Proofs.YtcaahmielncmpaaGreat
open Go
set_option maxRecDepth 20000

theorem l117_ok (s : Tm → Option Int) (n : Nat) (t : Tm) : ∀ (rest pre : List Tm) (acc : Int) (m : Nat), t.kids = pre ++ rest → rest.length < m → (∀ k ∈ rest, s k = some (k.size : Int)) → 0 ≤ acc → acc + Tm.sizes rest ≤ BIG → pre.length + rest.length ≤ BIG →
    l117_1 s n m t acc (pre.length : Int) = some (acc + Tm.sizes rest) := by
  intro rest
  induction rest with
  | nil =>
    intro pre acc m hk hm _ _ _ _
    obtain ⟨m, rfl⟩ := fuel hm
    simp only [l117_1, o117_1, decide_eq_true_eq, ifB_eq]
    rw [if_neg (ge_at hk)]
    simp [Tm.sizes]
  | cons x rest ih =>
    intro pre acc m hk hm hs h0 hb hl
    obtain ⟨m, rfl⟩ := fuel hm
    simp only [Tm.sizes] at hb ⊢
    rw [BIG_eq] at hb hl
    simp only [List.length_cons] at hl hm
    simp only [l117_1, o117_1, decide_eq_true_eq, ifB_eq]
    rw [if_pos (lt_at hk), atI_at hk, hs x (by simp), Option.bind_some, ckI_eq (by omega), ckI_eq (by omega)]
    have := ih (pre ++ [x]) (acc + x.size) m (next_at hk) (by omega) (fun k hk => hs k (by simp [hk])) (by omega) (by rw [BIG_eq]; omega) (by simp; rw [BIG_eq]; omega)
    rw [len_snoc] at this
    rw [this]
    congr 1
    omega
theorem f117_ok : ∀ (n : Nat) (t : Tm), t.size < n → t.size ≤ BIG → f117 n t = some (t.size : Int)
  | 0, t, h, _ => by omega
  | n + 1, t, h, hb => by
    have := Tm.len_kids t
    have h1 := l117_ok (f117 n) n t t.kids [] 1 n rfl (by omega) (fun k hk => f117_ok n k (by have := Tm.size_kid hk; omega) (by have := Tm.size_kid hk; omega)) (by omega) (by rw [Tm.size_eq] at hb; omega) (by simp; omega)
    rw [len_nil] at h1
    simp only [f117, o117_0, ifB_eq]
    rw [h1, Tm.size_eq t]
    rfl
theorem f87_ok {n : Nat} {J : Jd} (h1 : jsz J < n) (h2 : jsz J ≤ 20000000) : f87 n J = some (meas J : Int) := by
  have hB := BIG_eq
  unfold jsz at h1 h2
  unfold f87
  simp only [o87_0, ifB_eq]
  rw [f117_ok n J.u (by omega) (by omega), Option.bind_some, f117_ok n J.a (by omega) (by omega), Option.bind_some, ckI_eq (by omega)]
  cases he : J.eq with
  | true =>
    rw [if_pos rfl, f117_ok n J.v (by omega) (by omega), Option.bind_some, ckI_eq (by omega)]
    unfold meas; rw [he, if_pos rfl]; simp
  | false =>
    rw [if_neg (by simp)]
    unfold meas; rw [he, if_neg (by simp)]; simp

/-! ## The document's Right -/
theorem l49_ok (s : Dv → Option Bool) (n : Nat) (d : Dv) (hb : d.kids.length ≤ BIG) : ∀ (rest pre : List Dv) (m : Nat), d.kids = pre ++ rest → rest.length < m → (∀ k ∈ rest, s k = some k.ok) → l49_2 s n m d (pre.length : Int) = some (Dv.oks rest)
  | [], pre, m, h, hm, _ => by
    obtain ⟨m, rfl⟩ := fuel hm
    simp only [l49_2, o49_2, decide_eq_true_eq, ifB_eq]
    rw [if_neg (ge_at h)]; rfl
  | x :: rest, pre, m, h, hm, hs => by
    obtain ⟨m, rfl⟩ := fuel hm
    simp only [List.length_cons] at hm
    have hlt := len_of_eq h
    have hB := BIG_eq
    simp only [l49_2, o49_2, decide_eq_true_eq, ifB_eq]
    rw [if_pos (lt_at h), atI_at h, hs x (by simp), Option.bind_some]
    cases hx : x.ok with
    | false => rw [if_pos (by rfl)]; simp [Dv.oks, hx]
    | true =>
      rw [if_neg (by simp), ckI_eq (by omega)]
      have := l49_ok s n d hb rest (pre ++ [x]) m (next_at h) (by omega) (fun k hk => hs k (by simp [hk]))
      rw [len_snoc] at this
      rw [this]; simp [Dv.oks, hx]
theorem f49_ok : ∀ (n : Nat) (d : Dv), d.size < n → d.size ≤ BIG → f49 n d = some d.ok
  | 0, d, h, _ => by omega
  | n + 1, d, h, hb => by
    have hl := Dv.len_kids d
    have h1 := l49_ok (f49 n) n d (by omega) d.kids [] n rfl (by omega) (fun k hk => f49_ok n k (by have := Dv.size_kid hk; omega) (by have := Dv.size_kid hk; omega))
    rw [len_nil] at h1
    simp only [f49, o49_0, c49_1, o49_1, h1, f37_eq, Option.bind_some, ifB_eq]
    rw [Dv.ok_eq]
    unfold nodeD
    rw [f30_eq]
    simp only [f85, o85_0, ifB_eq, Option.bind_some]
    have hk0 : ¬ (d.kids.length : Int) < 0 := by omega
    generalize rkids d.rule = q
    by_cases e0 : q < 0
    · have : ¬ q = (d.kids.length : Int) := by omega
      simp [e0, this]
    by_cases e1 : q = (d.kids.length : Int)
    · by_cases e2 : d.i < 0
      · have : ¬ 0 ≤ d.i := by omega
        simp [hk0, e1, e2, this]
      · by_cases e3 : 1000000 < d.i
        · have : ¬ d.i ≤ 1000000 := by omega
          simp [hk0, e1, e2, e3, this]
        · have h1 : 0 ≤ d.i := by omega
          have h2 : d.i ≤ 1000000 := by omega
          by_cases e4 : d.i = 0
          · simp [e1, e4, hk0]
          · have h3 : 0 < d.i := by omega
            by_cases e5 : d.rule = 1
            · simp [hk0, e1, e2, e3, e4, e5, h1, h2, h3]
            · by_cases e6 : d.rule = 2
              · simp [hk0, e1, e2, e3, e4, e5, e6, h1, h2, h3]
              · simp [hk0, e1, e2, e3, e4, e5, e6, h1, h2, h3]
    · have e1' : ¬ (d.kids.length : Int) = q := fun h => e1 h.symm
      simp [e0, e1, e1']
theorem l52_ok (n : Nat) (ds : List Dv) (hb : Dv.sizes ds < n) (hB : Dv.sizes ds ≤ BIG) : ∀ (rest pre : List Dv) (m : Nat), ds = pre ++ rest → rest.length < m → l52_1 n m ds (pre.length : Int) = some (Dv.oks rest)
  | [], pre, m, h, hm => by
    obtain ⟨m, rfl⟩ := fuel hm
    simp only [l52_1, o52_1, decide_eq_true_eq, ifB_eq]
    rw [if_neg (ge_at h)]; rfl
  | x :: rest, pre, m, h, hm => by
    obtain ⟨m, rfl⟩ := fuel hm
    simp only [List.length_cons] at hm
    have hlt := len_of_eq h
    have hxs := Dv.size_mem (show x ∈ ds by rw [h]; simp)
    have hls := Dv.length_le ds
    have hBB := BIG_eq
    simp only [l52_1, o52_1, decide_eq_true_eq, ifB_eq]
    rw [if_pos (lt_at h), atI_at h, f49_ok n x (by omega) (by omega), Option.bind_some]
    cases hx : x.ok with
    | false => rw [if_pos (by rfl)]; simp [Dv.oks, hx]
    | true =>
      rw [if_neg (by simp), ckI_eq (by omega)]
      have := l52_ok n ds hb hB rest (pre ++ [x]) m (next_at h) (by omega)
      rw [len_snoc] at this
      rw [this]; simp [Dv.oks, hx]
theorem f52_ok (n : Nat) (ds : List Dv) (hb : Dv.sizes ds < n) (hB : Dv.sizes ds ≤ BIG) : f52 n ds = some (Dv.oks ds) := by
  have hls := Dv.length_le ds
  have := l52_ok n ds hb hB ds [] n rfl (by omega)
  rw [len_nil] at this
  exact this

/-! ## The document's judge -/
def rout (p : List Int) : Except (Int × List Int) Jd → Jd × Int × List Int
  | .ok J => (J, 0, [])
  | .error f => (zeroJ, f.1, p ++ f.2.reverse)
theorem lj50_ok (s : List Ent → Dv → Nat → List Int → Option (Jd × Int × List Int)) {n m : Nat} {c : List Ent} {d : Dv} {p : List Int} {w : Nat} (hm : Held m) (hn : 20000000 < n) (hb : Bd c (w + 1)) (hw : d.size ≤ w + 1) (hw1 : w ≤ 800) (hp : p.length ≤ 100000)
    (z0 : Bool) (z1 z2 z3 z4 z5 z6 z7 z8 z9 z10 z11 z12 z13 : Int) (hs : ∀ k ∈ d.kids, ∀ e, Bd e w → ∀ q : Int, s e k m (p ++ [q]) = some (rout (p ++ [q]) (jg m e k))) : ∀ (rest pre : List Dv) (fu : Nat) (on : List Jd), d.kids = pre ++ rest → rest.length < fu → on.length = pre.length → (∀ j ∈ on, jsz j ≤ 1002) →
    l50_1 s n fu c m p d z0 z1 z2 z3 z4 z5 z6 z7 z8 z9 z10 z11 z12 z13 on (pre.length : Int) = some (rout p (match jgs m c d.rule on rest with
      | .error f => .error f
      | .ok on' => jfin m c d.rule d.i on')) := by
  have hkl := Dv.len_kids d
  have hcl : csize c ≤ 1000000 := by have := hb.2.1; omega
  intro rest
  induction rest with
  | nil =>
    intro pre fu on hk hf hl hj
    obtain ⟨fu, rfl⟩ := fuel hf
    have hpl : pre.length ≤ 800 := by have : d.kids.length = pre.length := by rw [hk]; simp
                                      omega
    simp only [l50_1, o50_1, decide_eq_true_eq, ifB_eq, tz_eq, zj_eq]
    rw [if_neg (ge_at hk), jgs]
    have hsz := hb.sized hj (by omega)
    have h1 := f10_ok (n := n) (r := d.rule) (k := d.i) (by omega) hsz
    have h2 := (f9_ex (n := n) (r := d.rule) (k := d.i) (by omega) hsz).2
    unfold jfin
    dsimp only
    cases ho : ofP c d.rule d.i on with
    | none =>
      rw [ho] at h1
      have h1 : f10 n c d.rule d.i on = some (zeroJ, false) := h1
      rw [h1, Option.bind_some]
      refine (if_pos (show (!((zeroJ, false) : Jd × Bool).2) = true from rfl)).trans ?_
      simp [rout]
    | some J =>
      rw [ho] at h1
      have h1 : f10 n c d.rule d.i on = some (J, true) := h1
      rw [h1, Option.bind_some]
      obtain ⟨g1, _, g3, _⟩ := h2 J ho
      rw [if_neg (by simp)]
      dsimp only
      rw [f87_ok (by omega) (by omega), Option.bind_some]
      simp only [f86, o86_0, Option.bind_some]
      cases hle : fLe (fOf (meas J)) m with
      | true => rw [if_neg (by simp), if_pos rfl]; rfl
      | false => rw [if_pos (by rfl), if_neg (by simp)]; simp [rout]
  | cons k rest ih =>
    intro pre fu on hk hf hl hj
    obtain ⟨fu, rfl⟩ := fuel hf
    simp only [List.length_cons] at hf
    have hlt := len_of_eq hk
    have hpo : on.length ≤ 800 := by omega
    have hpB : pre.length ≤ BIG := by rw [BIG_eq]; omega
    have hB := BIG_eq
    have hkm : k ∈ d.kids := by rw [hk]; simp
    simp only [l50_1, o50_1, decide_eq_true_eq, ifB_eq, tz_eq, zj_eq]
    rw [if_pos (lt_at hk), ← hl, f38_ok n c d.rule _ on (by omega) (by omega) (fun j hj' => by have := hj j hj'; omega), Option.bind_some, jgs]
    cases hpc : premC c d.rule (on.length : Int) on with
    | mk e b =>
      cases b with
      | false => rw [if_pos (by rfl)]; simp [rout]
      | true =>
        have hbe := premC_bd hb hj hpc
        rw [if_neg (by simp), hl, atI_at hk, ckB_eq (by simp; omega), ckB_eq (by simp; omega)]
        dsimp only
        rw [List.nil_append, hs k hkm e hbe, Option.bind_some]
        cases hg : jg m e k with
        | error f =>
          obtain ⟨x, b⟩ := f
          have := jg_err _ k e x b (Nat.le_refl _) hg
          simp only [rout]
          refine (if_pos (show (!decide (x = (0 : Int))) = true by simp; omega)).trans ?_
          simp [hl]
        | ok J =>
          have hJ := jg_ok hm w k e J (by have := Dv.size_kid hkm; omega) hbe hg
          simp only [rout, jd_eta, Jd.eta]
          rw [if_neg (by simp), ckB_eq (by simpa [hl] using room184 (show pre.length ≤ BIG / 2 by omega)), ckI_eq (idx_ok hpB)]
          have := ih (pre ++ [k]) fu (on ++ [J]) (next_at hk) (by omega) (by simp [hl]) (fun j hj' => by
            rcases List.mem_append.1 hj' with hj' | hj'
            · exact hj j hj'
            · simp only [List.mem_singleton] at hj'
              subst hj'; omega)
          rw [len_snoc] at this
          exact this
theorem f50_ok {m : Nat} (hm : Held m) : ∀ (w n : Nat) (d : Dv) (c : List Ent) (p : List Int), d.size ≤ w → w ≤ 801 → 20000000 + w < n → Bd c w → p.length + w ≤ 100000 → f50 n c d m p = some (rout p (jg m c d))
  | 0, n, d, c, p, hd, _, _, _, _ => by have := Dv.size_pos d; omega
  | w + 1, n, d, c, p, hd, hw, hn, hb, hp => by
    obtain ⟨n, rfl⟩ := fuel hn
    have hkl := Dv.len_kids d
    unfold f50
    simp only [o50_0]
    have := lj50_ok (f50 n) (n := n) (p := p) hm (by omega) hb hd (by omega) (by omega) false 0 0 0 0 0 0 0 0 0 0 0 0 0 (fun k hk e he q => f50_ok hm w n k e (p ++ [q]) (by have := Dv.size_kid hk; omega) (by omega) (by omega) he (by simp; omega)) d.kids [] n [] rfl (by omega) rfl (fun j hj => by cases hj)
    rw [len_nil] at this
    rw [jg_eq]
    exact this
end Go.Proofs.YtcaahmielncmpaaGreat
