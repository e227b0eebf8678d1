/-
  Plain facts on what the functions compute.
-/
import Derived.Test.YtcaahmielncmpaaGreatPlF
set_option linter.unusedSimpArgs false
set_option linter.unusedVariables false
namespace Go.Proofs.YtcaahmielncmpaaGreat
open Go
/-! ## Lifting -/
mutual
def Tm.lift (k : Int) : Int → Tm → Option Tm
  | f, .mk kd i j n ks => if kd = 2 then (if f ≤ i then (if 2147483647 - i < k then none else some (.mk kd (i + k) j n ks)) else some (.mk kd i j n ks)) else match Tm.lifts k kd f 0 ks with
    | some l => some (.mk kd i j n l)
    | none => none
def Tm.lifts (k kd f : Int) : Nat → List Tm → Option (List Tm)
  | _, [] => some []
  | i, x :: xs => match Tm.lift k (f + tbinds kd i) x, Tm.lifts k kd f (i + 1) xs with
    | some y, some ys => some (y :: ys)
    | _, _ => none
end
theorem Tm.lifts_kids (k kd f : Int) : ∀ (i : Nat) (l : List Tm), Tm.lifts k kd f i l = kidsM (fun i x => Tm.lift k (f + tbinds kd i) x) i l
  | _, [] => rfl
  | i, x :: xs => by
    simp only [Tm.lifts, kidsM, Tm.lifts_kids k kd f (i + 1) xs]
    rfl
theorem Tm.lift_eq (k f : Int) (t : Tm) : Tm.lift k f t = if t.kind = 2 then (if f ≤ t.i then (if 2147483647 - t.i < k then none else some (.mk t.kind (t.i + k) t.j t.n t.kids)) else some t) else match kidsM (fun i x => Tm.lift k (f + tbinds t.kind i) x) 0 t.kids with
    | some l => some (.mk t.kind t.i t.j t.n l)
    | none => none := by
  cases t with
  | mk kd i j n ks =>
    rw [← Tm.lifts_kids]
    rfl
def out2 : Option Tm → Tm × Bool
  | some y => (y, true)
  | none => (tzero, false)

theorem kidsM_congr {go go' : Nat → Tm → Option Tm} : ∀ {i : Nat} {l : List Tm}, (∀ j x, l[j]? = some x → go (i + j) x = go' (i + j) x) → kidsM go i l = kidsM go' i l
  | _, [], _ => rfl
  | i, x :: xs, h => by
    have h0 := h 0 x (by simp)
    have h1 := kidsM_congr (go := go) (go' := go') (i := i + 1) (l := xs) (fun j y hj => by have := h (j + 1) y (by simpa using hj); rwa [show i + (j + 1) = i + 1 + j by omega] at this)
    simp only [kidsM]
    rw [show i = i + 0 from rfl, h0, show i + 0 + 1 = i + 1 from rfl, h1]
theorem kidsM_id : ∀ (i : Nat) (l : List Tm), kidsM (fun _ x => some x) i l = some l
  | _, [] => rfl
  | i, x :: xs => by simp [kidsM, kidsM_id (i + 1) xs]

/-- Above all variables nothing is lifted. -/
theorem Tm.lift_high (k : Int) : ∀ (n : Nat) (t : Tm) (f : Int), t.size < n → t.right = true → t.free ≤ f → Tm.lift k f t = some t
  | 0, t, f, h, _, _ => by omega
  | n + 1, t, f, h, hr, hf => by
    rw [Tm.lift_eq]
    rw [Tm.free_eq] at hf
    split
    · rename_i hk
      rw [if_pos hk] at hf
      rw [if_neg (by omega)]
    · rename_i hk
      rw [if_neg hk] at hf
      have hfr : ∀ (i : Nat) (l : List Tm) (j : Nat) (x : Tm), l[j]? = some x → x.free - tbinds t.kind (i + j : Nat) ≤ Tm.frees t.kind i l := by
        intro i l
        induction l generalizing i with
        | nil => intro j x h; simp at h
        | cons y l ih =>
          intro j x hj
          simp only [Tm.frees]
          cases j with
          | zero => simp at hj; subst hj; exact Int.le_max_left _ _
          | succ j =>
            have := ih (i + 1) j x (by simpa using hj)
            rw [show i + 1 + j = i + (j + 1) by omega] at this
            omega
      rw [kidsM_congr (go' := fun _ x => some x) (fun j x hj => by
        have hx := mem_of_get hj
        have := hfr 0 t.kids j x hj
        rw [Nat.zero_add] at this ⊢
        exact Tm.lift_high k n x _ (by have := Tm.size_kid hx; omega) (Tm.right_kid hr hx) (by omega)), kidsM_id]
      show some (Tm.mk t.kind t.i t.j t.n t.kids) = some t
      rw [Tm.eta]

theorem f121_ok (k : Int) (hk0 : 0 ≤ k) (hk1 : k ≤ 9223372036854775807) : ∀ (n : Nat) (t : Tm) (f : Int), t.size < n → t.size ≤ BIG → t.right = true → 0 ≤ f → f + 2 * t.size ≤ 4 * BIG → f121 n t k f = some (out2 (Tm.lift k f t))
  | 0, t, f, h, _, _, _, _ => by omega
  | n + 1, t, f, h, hb, hr, hf, hd => by
    have hl := Tm.len_kids t
    have hz : ∀ (t' : Tm), t'.kids = t.kids → t'.kind = t.kind → c121_1 (f121 n) n (l121_3 (f121 n) n n) k f t' 0 0 0 0 = match kidsM (fun i x => Tm.lift k (f + tbinds t.kind i) x) 0 t.kids with
        | some l => some (.mk t'.kind t'.i t'.j t'.n l, true)
        | none => some (tzero, false) := by
      intro t' ht' htk
      simp only [c121_1, o121_1, ht', ifB_eq]
      by_cases h0 : t.kids.length = 0
      · rw [if_pos (by simp [h0]), List.length_eq_zero_iff.1 h0]
        rfl
      · rw [if_neg (by simpa using h0), ckB_eq (by rw [BIG_eq] at hb; simp; omega)]
        have := fill_ok (L := fun m l i => l121_3 (f121 n) n m k f t' 0 0 0 0 l t.kids (t.kids.length : Int) i) (ks := t.kids)
          (B := fun i x c => (f120 t'.kind i).bind fun b => ckI (f + b) <| (f121 n x k (f + b)).bind fun r => if (!r.2) then some (Tm.mk 0 0 0 0 [], false) else c (Tm.mk r.1.kind r.1.i r.1.j r.1.n r.1.kids))
          (fin := fun l => some (Tm.mk t'.kind t'.i t'.j t'.n l, true)) (r0 := some (tzero, false)) (go := fun i x => Tm.lift k (f + tbinds t.kind i) x)
          (fun m l i => by simp only [l121_3, o121_3, ifB_eq]) (by omega) t.kids [] [] n rfl rfl (by omega) (fun i x c hi _ => by
            have hx := mem_of_get hi
            have hxs := Tm.size_kid hx
            have hbr := tbinds_range t.kind (i : Int)
            simp only [f120_eq, Option.bind_some, htk]
            rw [ckI_eq (by rw [BIG_eq] at hd; omega), f121_ok k hk0 hk1 n x _ (by omega) (by omega) (Tm.right_kid hr hx) (by omega) (by omega), Option.bind_some]
            cases Tm.lift k (f + tbinds t.kind i) x with
            | none => rfl
            | some y => simp [out2, Tm.eta])
        rw [len_nil] at this
        exact this
    simp only [f121, o121_0, ifB_eq]
    rw [Tm.lift_eq]
    by_cases hk : t.kind = 2
    · obtain ⟨v1, v2, v3, v4, v5⟩ := Tm.right_var hr hk
      rw [if_pos (by simpa using hk), if_pos hk]
      simp only [c121_2, o121_2, ifB_eq]
      by_cases hfi : f ≤ t.i
      · rw [if_pos (by simpa using hfi), if_pos hfi, ckI_eq (by omega)]
        by_cases hbig : 2147483647 - t.i < k
        · rw [if_pos (by simpa using hbig), if_pos hbig]
          rfl
        · rw [if_neg (by simpa using hbig), if_neg hbig, ckI_eq (by omega), hz (Tm.mk t.kind (t.i + k) t.j t.n t.kids) rfl rfl, v5]
          rfl
      · rw [if_neg (by simpa using hfi), if_neg hfi, hz t rfl rfl, v5]
        simp only [kidsM, out2]
        have := Tm.eta t
        rw [v5] at this
        rw [this]
    · rw [if_neg (by simpa using hk), if_neg hk]
      simp only [c121_2, o121_2, Bool.false_eq_true, if_false, ifB_eq]
      rw [hz t rfl rfl]
      cases kidsM (fun i x => Tm.lift k (f + tbinds t.kind i) x) 0 t.kids <;> rfl
end Go.Proofs.YtcaahmielncmpaaGreat
