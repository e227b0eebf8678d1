/-
  The statement returns true.
-/
import Derived.Test.YtcaahmielncmpaaChB
import Derived.Test.YtcaahmielncmpaaGenCheckParts
set_option linter.unusedSimpArgs false
set_option linter.unusedVariables false
namespace Go.Proofs.Ytcaahmielncmpaa
open Go
set_option maxRecDepth 20000
theorem f66_ok (n : Nat) (c : List Ent) (d : Dv) (hn : 2000 < n) : ∃ b, f66 n c d = some b ∧ (b = false → csize c ≤ 60 ∧ d.size ≤ 40) := by
  simp only [f66, o66_0, ifB_eq]
  obtain ⟨b, hb, hq⟩ := f38_ok n c 60 (by omega) (by omega) (by omega)
  rw [hb, Option.bind_some]
  cases b with
  | true => exact ⟨true, rfl, fun h => by cases h⟩
  | false =>
    have h1 := hq rfl
    rw [if_neg (by simp)]
    simp only [f72, o72_0]
    rw [f120_ok n d 40 200 (by omega) (by omega) (by omega) (by omega) (by omega), Option.bind_some, Option.bind_some]
    refine ⟨_, rfl, fun h => ?_⟩
    simp only [decide_eq_false_iff_not] at h
    have := Dv.great_size (d := d) (most := 40) (by omega) h
    omega
theorem w69_true (m : Nat) : f69 (m + 20) = some true := by kernel_rfl
/-- What was judged, kid by kid. -/
theorem jgs_parts {m : Nat} {c : List Ent} {r : Int} : ∀ {ds : List Dv} {on on' : List Jd}, jgs m c r on ds = .ok on' → match ds with
    | [] => on' = on
    | d :: ds => ∃ e J, premC c r (on.length : Int) on = (e, true) ∧ jg m e d = .ok J ∧ jgs m c r (on ++ [J]) ds = .ok on'
  | [], on, on', h => by rw [jgs] at h; cases h; rfl
  | d :: ds, on, on', h => by
    rw [jgs] at h
    split at h
    · cases h
    · rename_i e he
      split at h
      · cases h
      · rename_i J hJ
        exact ⟨e, J, he, hJ, h⟩
theorem l16_ok {n m : Nat} (hm0 : m = 4652007308841189376) {c : List Ent} {d : Dv} {J : Jd} {w : Nat} (hn : 20002000 < n) (hb : Bd c (w + 1)) (hw : d.size ≤ w + 1) (hw1 : w ≤ 800) (hok : d.ok = true) (hfin : ∀ on, jgs m c d.rule [] d.kids = .ok on → ofP c d.rule d.i on = some J ∧ (∀ j ∈ on, jsz j ≤ 1002) ∧ on.length ≤ 1000)
    (hJs : jsz J ≤ 1001) (on' : List Jd) (hall : jgs m c d.rule [] d.kids = .ok on') : ∀ (rest pre : List Dv) (fu : Nat) (on : List Jd), d.kids = pre ++ rest → rest.length < fu → on.length = pre.length → (∀ j ∈ on, jsz j ≤ 1002) → jgs m c d.rule on rest = .ok on' → l16_1 n fu c d J on (pre.length : Int) = some true := by
  have hkl := Dv.len_kids d
  have hcl : csize c ≤ 1000000 := by have := hb.2.1; omega
  have hB := BIG_eq
  subst hm0
  intro rest
  induction rest with
  | nil =>
    intro pre fu on hk hf hl hj hh
    obtain ⟨fu, rfl⟩ := fuel hf
    rw [jgs] at hh
    have hh : on = on' := by cases hh; rfl
    subst hh
    obtain ⟨h1, h2, h3⟩ := hfin _ hall
    simp only [l16_1, o16_1, decide_eq_true_eq, ifB_eq]
    have hx := (f62_ex (n := n) (r := d.rule) (k := d.i) (by omega) (hb.sized h2 h3)).1
    rw [h1] at hx
    have hx : f62 n c d.rule d.i on = some (J, true) := hx
    unfold jsz at hJs
    rw [if_neg (ge_at hk), hx, Option.bind_some, if_pos (by rfl)]
    dsimp only
    rw [f56_ok n J J (by omega) (by omega), sameJ_refl, Option.bind_some, if_pos rfl, show n = (n - 20) + 20 by omega, w69_true, Option.bind_some]
  | cons k rest ih =>
    intro pre fu on hk hf hl hj hh
    obtain ⟨fu, rfl⟩ := fuel hf
    simp only [List.length_cons] at hf
    have hlt := len_of_eq hk
    have hkm : k ∈ d.kids := by rw [hk]; simp
    have hks := Dv.size_kid hkm
    obtain ⟨e, K, he, hg, hh2⟩ := jgs_parts hh
    have hbe := premC_bd hb hj he
    have hpe := premC_pure he
    have hK := jg_ok held_1000 w k e K (by omega) hbe hg
    have hjd : jdg 4652007308841189376 e k = (K, 0, []) := by
      unfold jdg
      rw [hpe.1, Dv.ok_kid hok hkm, if_pos (show (true && true) = true from rfl), hg]
    simp only [l16_1, o16_1, decide_eq_true_eq, ifB_eq, jd_eta]
    rw [if_pos (lt_at hk), ← hl, f59_ok n c d.rule _ on (by omega) (by omega) (fun j hj' => by have := hj j hj'; omega), Option.bind_some, he, hl, atI_at hk]
    dsimp only
    rw [f68_ok held_1000 (w := w) (by omega) (by omega) (by omega) hbe, Option.bind_some, hjd, if_neg (by simp), if_neg (by simp), ckB_eq (by simpa using room184 (show pre.length ≤ BIG / 2 by omega)), ckI_eq (by omega)]
    have := ih (pre ++ [k]) fu (on ++ [K]) (next_at hk) (by omega) (by simp [hl]) (fun j hj' => by
      rcases List.mem_append.1 hj' with hj' | hj'
      · exact hj j hj'
      · simp only [List.mem_singleton] at hj'
        subst hj'; omega) hh2
    rw [len_snoc] at this
    exact this
theorem checkParts_c (c : List Ent) (d : Dv) : ACalls Try.prog 16 [.one (.slice (c.map entC)), .agg d.cells] (.v (.one (.bool true))) true :=
  (ok16 (29999980 + 20)).2 (c, d, ()) true (by
    show f16 (29999980 + 20) c d = some true
    obtain ⟨q, hq, hq2⟩ := f66_ok (29999980 + 20) c d (by omega)
    simp only [f16, o16_0, ifB_eq]
    rw [hq, Option.bind_some]
    cases q with
    | true => rfl
    | false =>
    obtain ⟨h1, h2⟩ := hq2 rfl
    have hb := Bd.small h1
    rw [if_neg (by simp), f68_ok held_1000 (w := 800) (by omega) (by omega) (by omega) hb, Option.bind_some]
    have other : ∀ p : Jd × Int × List Int, p.2.1 ≠ 0 → ∀ K : Option Bool, (if (!decide (p.2.1 = (0 : Int))) = true then (f69 (29999980 + 20)).bind fun x3 => some x3 else K) = some true := fun p hp K => by
      rw [if_pos (by simpa using hp), w69_true, Option.bind_some]
    unfold jdg
    cases hp : (pureC c && d.ok) with
    | false => exact other (zeroJ, 1, []) (by show (1 : Int) ≠ 0; decide) _
    | true =>
    simp only [if_true]
    rw [Bool.and_eq_true] at hp
    cases hx : jg 4652007308841189376 c d with
    | error f =>
      obtain ⟨x, p⟩ := f
      obtain ⟨e1, e2⟩ := jg_err _ d c x p (Nat.le_refl _) hx
      exact other (zeroJ, x, p.reverse) (by show x ≠ 0; omega) _
    | ok J =>
      have hJs := jg_ok held_1000 800 d c J (by omega) hb hx
      rw [if_neg (by simp)]
      dsimp only
      rw [jg_eq] at hx
      split at hx
      · cases hx
      · rename_i on hon
        have hw : Bd c (d.size + 1) := hb.le (by omega)
        have hfin : ∀ on', jgs 4652007308841189376 c d.rule [] d.kids = .ok on' → ofP c d.rule d.i on' = some J ∧ (∀ j ∈ on', jsz j ≤ 1002) ∧ on'.length ≤ 1000 := by
          intro on' hon'
          rw [hon] at hon'
          cases hon'
          obtain ⟨g1, g2⟩ := jgs_ok held_1000 (w := d.size) hw (fun k hk e J' he hJ => by have := jg_ok held_1000 d.size k e J' (by have := Dv.size_kid hk; omega) he hJ; omega) (fun j hj => by cases hj) hon
          have := Dv.len_kids d
          have gl : on.length ≤ 1000 := by simp at g2; omega
          exact ⟨(jfin_ok held_1000 (r := d.rule) (i := d.i) (hb.sized g1 gl) hx).2, g1, gl⟩
        have := l16_ok (n := 29999980 + 20) rfl (w := d.size) (by omega) hw (by omega) (by omega) hp.2 hfin hJs on hon d.kids [] (29999980 + 20) [] rfl (by have := Dv.len_kids d; omega) rfl (fun j hj => by cases hj) hon
        rw [len_nil] at this
        exact this)
end Go.Proofs.Ytcaahmielncmpaa
