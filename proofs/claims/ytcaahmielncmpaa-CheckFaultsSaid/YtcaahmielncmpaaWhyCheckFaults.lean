/-
  The statement returns true.
-/
import Derived.Test.YtcaahmielncmpaaChB
import Derived.Test.YtcaahmielncmpaaGenCheckFaults
set_option linter.unusedSimpArgs false
set_option linter.unusedVariables false
namespace Go.Proofs.Ytcaahmielncmpaa
open Go
set_option maxRecDepth 20000
theorem f66_ok (n : Nat) (c : List Ent) (d : Dv) (hn : 2000 < n) : ∃ b, f66 n c d = some b ∧ (b = false → csize c ≤ 60 ∧ d.size ≤ 40) := by
  simp only [f66, o66_0, ifB_eq]
  obtain ⟨b, hb, hq⟩ := f38_ok n c 60 (by omega) (by omega) (by omega)
  rw [hb, Option.bind_some]
  cases b with
  | true => exact ⟨true, rfl, fun h => by cases h⟩
  | false =>
    have h1 := hq rfl
    rw [if_neg (by simp)]
    simp only [f72, o72_0]
    rw [f120_ok n d 40 200 (by omega) (by omega) (by omega) (by omega) (by omega), Option.bind_some, Option.bind_some]
    refine ⟨_, rfl, fun h => ?_⟩
    simp only [decide_eq_false_iff_not] at h
    have := Dv.great_size (d := d) (most := 40) (by omega) h
    omega
theorem w69_true (m : Nat) : f69 (m + 20) = some true := by kernel_rfl
theorem f122_eq (r : Int) : f122 r = some (decide (r = 1) || decide (r = 2)) := by
  simp only [f122, o122_0, ifB_eq]
  by_cases h : r = 1
  · simp [h]
  · simp [h]
theorem l75_ok (s : Dv → Option Bool) (n : Nat) (d : Dv) (hb : d.kids.length ≤ 1000) : ∀ (rest pre : List Dv) (m : Nat), d.kids = pre ++ rest → rest.length < m → (∀ k ∈ rest, s k = some k.ok) → l75_2 s n m d (pre.length : Int) = some (Dv.oks rest) := by
  intro rest
  induction rest with
  | nil =>
    intro pre m hk hm _
    obtain ⟨m, rfl⟩ := fuel hm
    simp only [l75_2, o75_2, decide_eq_true_eq, ifB_eq]
    rw [if_neg (ge_at hk)]; rfl
  | cons x rest ih =>
    intro pre m hk hm hs
    obtain ⟨m, rfl⟩ := fuel hm
    simp only [List.length_cons] at hm
    have hlt := len_of_eq hk
    simp only [l75_2, o75_2, decide_eq_true_eq, ifB_eq]
    rw [if_pos (lt_at hk), atI_at hk, hs x (by simp), Option.bind_some]
    cases hx : x.ok with
    | false =>
      rw [if_pos (by rfl)]
      show _ = some (x.ok && Dv.oks rest)
      rw [hx]; rfl
    | true =>
      rw [if_neg (by simp), ckI_eq (by omega)]
      have := ih (pre ++ [x]) m (next_at hk) (by omega) (fun k hk => hs k (by simp [hk]))
      rw [len_snoc] at this
      rw [this]
      show _ = some (x.ok && Dv.oks rest)
      rw [hx]; rfl
theorem f75_ok : ∀ (n : Nat) (d : Dv), d.size < n → d.size ≤ 1000 → f75 n d = some d.ok
  | 0, d, h, _ => by omega
  | n + 1, d, h, hb => by
    have hl := Dv.len_kids d
    have h1 := l75_ok (f75 n) n d (by omega) d.kids [] n rfl (by omega) (fun k hk => f75_ok n k (by have := Dv.size_kid hk; omega) (by have := Dv.size_kid hk; omega))
    rw [len_nil] at h1
    simp only [f75, o75_0, c75_1, o75_1, h1, f111_eq, f122_eq, Option.bind_some, ifB_eq]
    rw [Dv.ok_eq]
    unfold nodeD
    rw [f106_eq]
    simp only [Option.some.injEq]
    by_cases e0 : rkids d.rule < 0
    · have : ¬ rkids d.rule = (d.kids.length : Int) := by omega
      simp [e0, this]
    by_cases e1 : rkids d.rule = (d.kids.length : Int)
    · by_cases e2 : d.i < 0
      · have : ¬ 0 ≤ d.i := by omega
        simp [e1, e2, this]
      · by_cases e3 : 1000000 < d.i
        · have : ¬ d.i ≤ 1000000 := by omega
          simp [e1, e2, e3, this]
        · have h1 : 0 ≤ d.i := by omega
          have h2 : d.i ≤ 1000000 := by omega
          by_cases e4 : d.i = 0
          · simp [e1, e4]
            intro hh; omega
          · have e5 : 0 < d.i := by omega
            by_cases e6 : d.rule = 1
            · simp [e6, e2, e3, e4, e5, h1, h2] at e1 ⊢
              simp [e1]
              intro hh; omega
            · by_cases e7 : d.rule = 2
              · simp [e7, e2, e3, e4, e5, h1, h2] at e1 ⊢
                simp [e1]
                intro hh; omega
              · simp [e1, e2, e3, e4, e5, e6, e7, h1, h2]
    · have : ¬ (d.kids.length : Int) = rkids d.rule := fun e => e1 e.symm
      simp [e0, e1, this]
theorem jgs_path {m : Nat} {c : List Ent} {D : Dv} : ∀ {ds pre : List Dv} {on : List Jd} {x : Int} {b : List Int}, D.kids = pre ++ ds → on.length = pre.length → (∀ d ∈ ds, ∀ e x b, jg m e d = .error (x, b) → ∃ y, Dv.at d b.reverse = some y) → jgs m c D.rule on ds = .error (x, b) → ∃ y, Dv.at D b.reverse = some y
  | [], pre, on, x, b, _, _, _, h => by rw [jgs] at h; cases h
  | d :: ds, pre, on, x, b, hk, hl, hd, h => by
    rw [jgs] at h
    split at h
    · cases h
      exact ⟨D, rfl⟩
    · split at h
      · rename_i x' b' hx
        cases h
        obtain ⟨y, hy⟩ := hd d (by simp) _ _ _ hx
        refine ⟨y, ?_⟩
        rw [List.reverse_append, List.reverse_cons, List.reverse_nil, List.nil_append, List.singleton_append, Dv.at]
        rw [if_neg (by omega), Int.toNat_natCast, hl, hk, List.getElem?_append_right (Nat.le_refl _)]
        simpa using hy
      · exact jgs_path (pre := pre ++ [d]) (by rw [hk]; simp) (by simp [hl]) (fun d hd' => hd d (by simp [hd'])) h
theorem jg_path {m : Nat} : ∀ (w : Nat) (d : Dv) (c : List Ent) (x : Int) (b : List Int), d.size ≤ w → jg m c d = .error (x, b) → ∃ y, Dv.at d b.reverse = some y
  | 0, d, c, x, b, hd, _ => by have := Dv.size_pos d; omega
  | w + 1, d, c, x, b, hd, h => by
    rw [jg_eq] at h
    split at h
    · rename_i f hf
      cases h
      exact jgs_path (pre := []) rfl rfl (fun k hk e x b hx => jg_path w k e x b (by have := Dv.size_kid hk; omega) hx) hf
    · split at h
      · cases h; exact ⟨d, rfl⟩
      · split at h
        · cases h
        · cases h; exact ⟨d, rfl⟩
theorem checkFaults_c (c : List Ent) (d : Dv) : ACalls Try.prog 18 [.one (.slice (c.map entC)), .agg d.cells] (.v (.one (.bool true))) true :=
  (ok18 (29999980 + 20)).2 (c, d, ()) true (by
    show f18 (29999980 + 20) c d = some true
    obtain ⟨q, hq, hq2⟩ := f66_ok (29999980 + 20) c d (by omega)
    have hB := BIG_eq
    simp only [f18, o18_0, ifB_eq]
    rw [hq, Option.bind_some]
    cases q with
    | true => rfl
    | false =>
    obtain ⟨h1, h2⟩ := hq2 rfl
    have hb := Bd.small h1
    have e69 : ((f69 (29999980 + 20)).bind fun x : Bool => some x) = some true := by rw [w69_true, Option.bind_some]
    rw [if_neg (by simp), f68_ok held_1000 (w := 800) (by omega) (by omega) (by omega) hb, Option.bind_some]
    unfold jdg
    cases hp : (pureC c && d.ok) with
    | false => simp only [Bool.false_eq_true, if_false]; exact e69
    | true =>
    simp only [if_true]
    rw [Bool.and_eq_true] at hp
    cases hx : jg 4652007308841189376 c d with
    | ok J => exact e69
    | error f =>
      obtain ⟨x, p⟩ := f
      obtain ⟨e1, e2⟩ := jg_err _ d c x p (Nat.le_refl _) hx
      rcases e2 with e2 | e2
      · subst e2
        obtain ⟨y, hy⟩ := jg_path _ d c 3 p (Nat.le_refl _) hx
        have hyo := Dv.at_ok hy hp.2
        have hys := (Dv.at_size hy).1
        rw [if_neg (by simp)]
        dsimp only
        rw [f74_ok _ d p.reverse (by omega) (by omega) (by simp; omega) (by simp; omega), hy, Option.bind_some]
        show (if true = true then (f75 (29999980 + 20) y).bind _ else _) = _
        rw [if_pos rfl, f75_ok _ y (by omega) (by omega), hyo, Option.bind_some, if_pos rfl]
        exact e69
      · subst e2
        exact e69)
end Go.Proofs.Ytcaahmielncmpaa
