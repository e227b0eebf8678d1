/-
  The statement returns true.
-/
import Derived.Test.YtcaahmielncmpaaChB
import Derived.Test.YtcaahmielncmpaaGenCheckMore
set_option linter.unusedSimpArgs false
set_option linter.unusedVariables false
namespace Go.Proofs.Ytcaahmielncmpaa
open Go
set_option maxRecDepth 20000
theorem f66_ok (n : Nat) (c : List Ent) (d : Dv) (hn : 2000 < n) : ∃ b, f66 n c d = some b ∧ (b = false → csize c ≤ 60 ∧ d.size ≤ 40) := by
  simp only [f66, o66_0, ifB_eq]
  obtain ⟨b, hb, hq⟩ := f38_ok n c 60 (by omega) (by omega) (by omega)
  rw [hb, Option.bind_some]
  cases b with
  | true => exact ⟨true, rfl, fun h => by cases h⟩
  | false =>
    have h1 := hq rfl
    rw [if_neg (by simp)]
    simp only [f72, o72_0]
    rw [f120_ok n d 40 200 (by omega) (by omega) (by omega) (by omega) (by omega), Option.bind_some, Option.bind_some]
    refine ⟨_, rfl, fun h => ?_⟩
    simp only [decide_eq_false_iff_not] at h
    have := Dv.great_size (d := d) (most := 40) (by omega) h
    omega
theorem f67_eq (m : Nat) : f67 m = some (hd m) := by
  simp only [f67, o67_0, ifB_eq]
  unfold hd
  split <;> rfl
theorem w69_true (m : Nat) : f69 (m + 20) = some true := by kernel_rfl
/-- With more allowed what is judged stays, and so does what is no instance. -/
def KeepsX {α : Type} (x y : Except (Int × List Int) α) : Prop := match x with
  | .ok a => y = .ok a
  | .error f => f.1 = 3 → y = .error f
theorem jgs_more {m m' : Nat} {c : List Ent} {r : Int} : ∀ {ds : List Dv} {on : List Jd}, (∀ d ∈ ds, ∀ e, KeepsX (jg m e d) (jg m' e d)) → KeepsX (jgs m c r on ds) (jgs m' c r on ds)
  | [], on, _ => by rw [jgs, jgs]; exact rfl
  | d :: ds, on, h => by
    rw [jgs, jgs]
    cases premC c r (on.length : Int) on with
    | mk e b =>
      cases b with
      | false => exact fun _ => rfl
      | true =>
        have h1 := h d (by simp) e
        dsimp only
        cases hx : jg m e d with
        | ok J =>
          rw [hx] at h1
          have h1 : jg m' e d = .ok J := h1
          rw [h1]
          exact jgs_more fun d hd => h d (by simp [hd])
        | error f =>
          obtain ⟨x, p⟩ := f
          rw [hx] at h1
          intro h3
          have h1 : jg m' e d = .error (x, p) := h1 h3
          rw [h1]
theorem jg_more {m m' : Nat} (hm : fLe m m' = true) : ∀ (w : Nat) (d : Dv) (c : List Ent), d.size ≤ w → KeepsX (jg m c d) (jg m' c d)
  | 0, d, c, hd => by have := Dv.size_pos d; omega
  | w + 1, d, c, hd => by
    have h := jgs_more (m := m) (m' := m') (c := c) (r := d.rule) (ds := d.kids) (on := []) (fun k hk e => jg_more hm w k e (by have := Dv.size_kid hk; omega))
    rw [jg_eq, jg_eq]
    cases hx : jgs m c d.rule [] d.kids with
    | error f =>
      rw [hx] at h
      intro h3
      have h : jgs m' c d.rule [] d.kids = .error f := h h3
      rw [h]
    | ok on =>
      rw [hx] at h
      have h : jgs m' c d.rule [] d.kids = .ok on := h
      rw [h]
      dsimp only
      cases ofP c d.rule d.i on with
      | none => exact fun _ => rfl
      | some J =>
        dsimp only
        cases hl : fLe (fOf (meas J)) m with
        | false => rw [if_neg (by simp)]; intro h4; exact absurd h4 (by simp)
        | true => rw [if_pos rfl, if_pos (fLe_trans hl hm)]; exact rfl
theorem checkMore_c (c : List Ent) (d : Dv) (a b : Nat) : ACalls Try.prog 15 [.one (.slice (c.map entC)), .agg d.cells, .one (.flt a), .one (.flt b)] (.v (.one (.bool true))) true :=
  (ok15 (29999980 + 20)).2 (c, d, a, b, ()) true (by
    show f15 (29999980 + 20) c d a b = some true
    obtain ⟨q, hq, hq2⟩ := f66_ok (29999980 + 20) c d (by omega)
    simp only [f15, o15_0, ifB_eq]
    rw [hq, Option.bind_some]
    cases q with
    | true => rfl
    | false =>
    obtain ⟨h1, h2⟩ := hq2 rfl
    have hb := Bd.small h1
    rw [if_neg (by simp), f67_eq, f67_eq, Option.bind_some, Option.bind_some]
    cases hg : fGe (hd b) (hd a) with
    | false => rw [if_pos (by rfl)]
    | true =>
    rw [if_neg (by simp)]
    simp only [c15_1, o15_1, ifB_eq, f67_eq, Option.bind_some]
    rw [f68_ok (held_hd a) (w := 800) (by omega) (by omega) (by omega) hb, f68_ok (held_hd b) (w := 800) (by omega) (by omega) (by omega) hb, Option.bind_some, Option.bind_some]
    have hk := jg_more (fGe_le hg) _ d c (Nat.le_refl _)
    have fin : ∀ p : Jd × Int × List Int, p.2.1 ≠ 4 → p.2.2.length ≤ 1000 → jsz p.1 ≤ 1001 → (if decide (p.2.1 = (4 : Int)) = true then (if decide ((p.2.2.length : Int) ≤ (200 : Int)) = true then (f69 (29999980 + 20)).bind fun x8 => some x8 else some false) else
        if decide (p.2.1 = p.2.1) = true then (f70 (29999980 + 20) p.2.2 p.2.2).bind fun x9 => if x9 = true then (f56 (29999980 + 20) p.1 p.1).bind fun x10 => if x10 = true then (f69 (29999980 + 20)).bind fun x11 => some x11 else some false else some false else some false) = some true := fun p h4 hl hs => by
      unfold jsz at hs
      have hB := BIG_eq
      rw [if_neg (by simpa using h4), if_pos (by simp), f70_ok _ _ _ (by omega) (by omega), decide_eq_true rfl, Option.bind_some, if_pos rfl, f56_ok _ _ _ (by omega) (by omega), sameJ_refl, Option.bind_some, if_pos rfl, w69_true, Option.bind_some]
    unfold jdg
    cases hp : (pureC c && d.ok) with
    | false => exact fin (zeroJ, 1, []) (by decide) (by decide) (by decide)
    | true =>
    simp only [if_true]
    cases hx : jg (hd a) c d with
    | ok J =>
      rw [hx] at hk
      have hk : jg (hd b) c d = .ok J := hk
      rw [hk]
      exact fin (J, 0, []) (by show (0 : Int) ≠ 4; decide) (by show (0 : Nat) ≤ 1000; decide) (jg_ok (held_hd a) 800 d c J (by omega) hb hx)
    | error f =>
      obtain ⟨x, p⟩ := f
      obtain ⟨e1, e2⟩ := jg_err _ d c x p (Nat.le_refl _) hx
      rcases e2 with e2 | e2
      · subst e2
        rw [hx] at hk
        have hk : jg (hd b) c d = .error (3, p) := hk rfl
        rw [hk]
        exact fin (zeroJ, 3, p.reverse) (by show (3 : Int) ≠ 4; decide) (by simp; omega) (by show jsz zeroJ ≤ 1001; decide)
      · subst e2
        rw [if_pos (by simp), if_pos (by simp; omega), w69_true, Option.bind_some])
end Go.Proofs.Ytcaahmielncmpaa
