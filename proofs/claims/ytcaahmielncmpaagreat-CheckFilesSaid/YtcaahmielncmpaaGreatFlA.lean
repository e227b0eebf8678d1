/-
  Plain facts on what the functions compute.
-/
import Derived.Test.YtcaahmielncmpaaGreatTypedA
set_option linter.unusedSimpArgs false
set_option linter.unusedVariables false
namespace Go.Proofs.YtcaahmielncmpaaGreat
open Go Ieee

/-! ## Floats in order -/
def leD (d e : Datum) : Prop := d.order e = some .lt ∨ d.order e = some .eq
theorem fLe_iff (a b : Nat) : fLe a b = true ↔ leD (FloatKind.f64.format.read a) (FloatKind.f64.format.read b) := by
  unfold fLe leD Format.order
  simp [Bool.or_eq_true]
theorem cmpI (a b : Int) : compare a b = if a < b then .lt else if a = b then .eq else .gt := rfl
theorem signed_mul (s : Bool) (m p q : Nat) : signed s m (p + q) = signed s m p * 2 ^ q := by
  unfold signed
  cases s
  · simp only [Bool.false_eq_true, if_false, Nat.shiftLeft_eq, Nat.pow_add]
    push_cast
    rw [Int.mul_assoc]
  · simp only [if_true, Nat.shiftLeft_eq, Nat.pow_add]
    push_cast
    rw [← Int.mul_assoc, Int.neg_mul]
theorem cmp_mul (a b : Int) (q : Nat) : compare (a * 2 ^ q) (b * 2 ^ q) = compare a b := by
  have hp : (0 : Int) < 2 ^ q := Int.pow_pos (by omega)
  rw [cmpI, cmpI]
  have h1 : a * 2 ^ q < b * 2 ^ q ↔ a < b := by
    constructor
    · intro h; exact Int.lt_of_mul_lt_mul_right h (Int.le_of_lt hp)
    · intro h; exact Int.mul_lt_mul_of_pos_right h hp
  have h2 : a * 2 ^ q = b * 2 ^ q ↔ a = b := by
    constructor
    · intro h; exact Int.eq_of_mul_eq_mul_right (Int.ne_of_gt hp) h
    · intro h; rw [h]
  simp only [h1, h2]
theorem order_at (s t : Bool) (m n : Nat) (i j c : Int) (hi : c ≤ i) (hj : c ≤ j) :
    (Datum.number s m i).order (.number t n j) = some (compare (signed s m (i - c).toNat) (signed t n (j - c).toNat)) := by
  unfold Datum.order
  simp only [Option.some.injEq]
  have e1 : (i - c).toNat = (i - min i j).toNat + (min i j - c).toNat := by omega
  have e2 : (j - c).toNat = (j - min i j).toNat + (min i j - c).toNat := by omega
  rw [e1, e2, signed_mul, signed_mul, cmp_mul]
theorem leD_num (s t : Bool) (m n : Nat) (i j c : Int) (hi : c ≤ i) (hj : c ≤ j) : leD (.number s m i) (.number t n j) ↔ signed s m (i - c).toNat ≤ signed t n (j - c).toNat := by
  unfold leD
  rw [order_at s t m n i j c hi hj, cmpI]
  simp only [Option.some.injEq]
  constructor
  · intro h
    split at h
    · omega
    · split at h
      · omega
      · simp at h
  · intro h
    split
    · exact .inl rfl
    · rw [if_pos (by omega)]; exact .inr rfl
theorem leD_trans {d e f : Datum} (h1 : leD d e) (h2 : leD e f) : leD d f := by
  cases d with
  | nan s x => unfold leD at h1; simp [Datum.order] at h1
  | infinity s =>
    cases e with
    | nan t x => unfold leD at h1; simp [Datum.order] at h1
    | infinity t =>
      cases f with
      | nan u x => unfold leD at h2; simp [Datum.order] at h2
      | infinity u => revert h1 h2; unfold leD; simp only [Datum.order]; cases s <;> cases t <;> cases u <;> decide
      | number u n j => revert h1 h2; unfold leD; simp only [Datum.order]; cases s <;> cases t <;> decide
    | number t n j =>
      cases f with
      | nan u x => unfold leD at h2; simp [Datum.order] at h2
      | infinity u => revert h1 h2; unfold leD; simp only [Datum.order]; cases s <;> cases u <;> decide
      | number u n j => revert h1; unfold leD; simp only [Datum.order]; cases s <;> decide
  | number s m i =>
    cases e with
    | nan t x => unfold leD at h1; simp [Datum.order] at h1
    | infinity t =>
      cases f with
      | nan u x => unfold leD at h2; simp [Datum.order] at h2
      | infinity u => revert h1 h2; unfold leD; simp only [Datum.order]; cases t <;> cases u <;> decide
      | number u n j => revert h1 h2; unfold leD; simp only [Datum.order]; cases t <;> simp
    | number t n j =>
      cases f with
      | nan u x => unfold leD at h2; simp [Datum.order] at h2
      | infinity u => revert h2; unfold leD; simp only [Datum.order]; cases u <;> decide
      | number u k l =>
        rw [leD_num s t m n i j (min i (min j l)) (by omega) (by omega)] at h1
        rw [leD_num t u n k j l (min i (min j l)) (by omega) (by omega)] at h2
        rw [leD_num s u m k i l (min i (min j l)) (by omega) (by omega)]
        exact Int.le_trans h1 h2
theorem fLe_trans {a b c : Nat} (h1 : fLe a b = true) (h2 : fLe b c = true) : fLe a c = true := by
  rw [fLe_iff] at *
  exact leD_trans h1 h2
/-- What is not greater, and is in order with itself, is less or equal. -/
theorem fGt_le {a b c : Nat} (h : fGt a b = false) (hc : fLe c a = true) (hb : fLe b b = true) : fLe a b = true := by
  have hna : ∀ s x, FloatKind.f64.format.read a ≠ .nan s x := by
    intro s x e
    rw [fLe_iff, e] at hc
    unfold leD at hc
    cases hd : FloatKind.f64.format.read c <;> rw [hd] at hc <;> simp [Datum.order] at hc
  have hnb : ∀ s x, FloatKind.f64.format.read b ≠ .nan s x := by
    intro s x e
    rw [fLe_iff, e] at hb
    unfold leD at hb
    simp [Datum.order] at hb
  unfold fGt Format.order at h
  rw [fLe_iff]
  unfold leD
  have hsome : ∃ o, (FloatKind.f64.format.read a).order (FloatKind.f64.format.read b) = some o := by
    cases hd : FloatKind.f64.format.read a with
    | nan s x => exact (hna s x hd).elim
    | infinity s =>
      cases he : FloatKind.f64.format.read b with
      | nan s x => exact (hnb s x he).elim
      | infinity t => exact ⟨_, rfl⟩
      | number t n j => exact ⟨_, rfl⟩
    | number s m i =>
      cases he : FloatKind.f64.format.read b with
      | nan s x => exact (hnb s x he).elim
      | infinity t => exact ⟨_, rfl⟩
      | number t n j => exact ⟨_, rfl⟩
  obtain ⟨o, ho⟩ := hsome
  rw [ho] at h ⊢
  cases o <;> simp at h ⊢

/-! ### whole numbers as floats -/
theorem cut_zero (n : Nat) : Toward.even.cut false n 0 = n := by
  unfold Toward.cut
  simp [Nat.mod_one]
theorem read_fOf {n : Nat} (h0 : 0 < n) (h : n < 2 ^ 53) : FloatKind.f64.format.read (fOf n) = .number false (n <<< (52 - n.log2)) ((n.log2 : Int) - 52) := by
  have hl : n.log2 < 53 := (Nat.log2_lt (by omega)).2 h
  have hlo : 2 ^ n.log2 ≤ n := Nat.log2_self_le (by omega)
  have hhi : n < 2 ^ (n.log2 + 1) := Nat.lt_log2_self
  have hk1 : 2 ^ 52 ≤ n <<< (52 - n.log2) := by
    rw [Nat.shiftLeft_eq]
    calc 2 ^ 52 = 2 ^ n.log2 * 2 ^ (52 - n.log2) := by rw [← Nat.pow_add]; congr 1; omega
      _ ≤ n * 2 ^ (52 - n.log2) := Nat.mul_le_mul_right _ hlo
  have hk2 : n <<< (52 - n.log2) < 2 ^ 53 := by
    rw [Nat.shiftLeft_eq]
    calc n * 2 ^ (52 - n.log2) < 2 ^ (n.log2 + 1) * 2 ^ (52 - n.log2) := Nat.mul_lt_mul_of_pos_right hhi (Nat.pow_pos (by omega))
      _ = 2 ^ 53 := by rw [← Nat.pow_add]; congr 1; omega
  have e0 : FloatKind.f64.format = double := rfl
  have hb : double.binade = 2 ^ 52 := rfl
  have hp : double.leastPlace = -1074 := rfl
  have hfb : (double.fractionBits : Int) = 52 := rfl
  have hir : double.infRung = 2047 * 2 ^ 52 := by decide
  have hsw : double.signWeight = 2 ^ 63 := rfl
  have hw : fOf (n : Int) = (n.log2 + 1022) * 2 ^ 52 + n <<< (52 - n.log2) := by
    unfold fOf FloatKind.nearest FloatKind.encode
    rw [e0]
    unfold Format.write Format.nearest
    simp only [Int.natAbs_natCast]
    rw [if_neg (by omega)]
    rw [hp, hfb, hb, hir]
    have hmax : max ((0 : Int) + (n.log2 : Int) - 52) (-1074) = (n.log2 : Int) - 52 := by omega
    rw [hmax, show (0 - ((n.log2 : Int) - 52)).toNat = 52 - n.log2 by omega, show ((n.log2 : Int) - 52 - 0).toNat = 0 by omega]
    rw [show decide ((n : Int) < 0) = false by simp, cut_zero, show ((n.log2 : Int) - 52 - -1074).toNat = n.log2 + 1022 by omega]
    unfold Format.word
    simp only [Bool.false_eq_true, if_false]
    exact Nat.min_eq_left (by omega)
  generalize n <<< (52 - n.log2) = k at *
  generalize n.log2 = l at *
  rw [hw, e0]
  unfold Format.read
  simp only [hb, hp, hir, hsw]
  have hlt : (l + 1022) * 2 ^ 52 + k < 2 ^ 63 := by omega
  have hd : ((l + 1022) * 2 ^ 52 + k) / 2 ^ 63 = 0 := Nat.div_eq_of_lt hlt
  have hmm : ((l + 1022) * 2 ^ 52 + k) % 2 ^ 63 = (l + 1022) * 2 ^ 52 + k := Nat.mod_eq_of_lt hlt
  rw [hd, hmm, if_neg (by omega), if_pos (by omega)]
  have h1 : ((l + 1022) * 2 ^ 52 + k) % 2 ^ 52 = k - 2 ^ 52 := by omega
  have h2 : ((l + 1022) * 2 ^ 52 + k) / 2 ^ 52 = l + 1023 := by omega
  rw [h1, h2]
  have h3 : 2 ^ 52 + (k - 2 ^ 52) = k := by omega
  have h4 : (-1074 : Int) + ((l + 1023 - 1 : Nat) : Int) = (l : Int) - 52 := by omega
  rw [h3, h4]
  rfl
theorem read_fOf0 : FloatKind.f64.format.read (fOf 0) = .number false 0 (-1074) := by decide
theorem fOf_at {n E : Nat} (hE : E = 1074) (h : n < 2 ^ 53) : ∃ m i, FloatKind.f64.format.read (fOf n) = .number false m i ∧ -1074 ≤ i ∧ signed false m (i - -1074).toNat = (n : Int) * 2 ^ E := by
  by_cases h0 : n = 0
  · subst h0
    exact ⟨0, -1074, read_fOf0, by omega, by unfold signed; rw [if_neg (by simp), Nat.zero_shiftLeft]; exact (Int.zero_mul _).symm⟩
  · have hl : n.log2 < 53 := (Nat.log2_lt (by omega)).2 h
    refine ⟨_, _, read_fOf (by omega) h, by omega, ?_⟩
    unfold signed
    simp only [Bool.false_eq_true, if_false, Nat.shiftLeft_eq]
    rw [Nat.mul_assoc, ← Nat.pow_add, show 52 - n.log2 + ((n.log2 : Int) - 52 - -1074).toNat = E by omega]
    push_cast
    rfl
theorem fOf_le {a b : Nat} (ha : a < 2 ^ 53) (hb : b < 2 ^ 53) : fLe (fOf a) (fOf b) = true ↔ a ≤ b := by
  obtain ⟨E, hE⟩ : ∃ E : Nat, E = 1074 := ⟨_, rfl⟩
  obtain ⟨m, i, h1, h2, h3⟩ := fOf_at hE ha
  obtain ⟨n, j, g1, g2, g3⟩ := fOf_at hE hb
  rw [fLe_iff, h1, g1, leD_num _ _ _ _ _ _ (-1074) h2 g2, h3, g3]
  have hp : (0 : Int) < 2 ^ E := Int.pow_pos (by omega)
  constructor
  · intro h
    have := Int.le_of_mul_le_mul_right h hp
    omega
  · intro h
    exact Int.mul_le_mul_of_nonneg_right (by omega) (Int.le_of_lt hp)
theorem k1000 : fOf 1000 = 4652007308841189376 := by decide
end Go.Proofs.YtcaahmielncmpaaGreat
