/-
  Plain facts on what the functions compute.
-/
import Derived.Test.YtcaahmielncmpaaPlH
set_option linter.unusedSimpArgs false
set_option linter.unusedVariables false
namespace Go.Proofs.Ytcaahmielncmpaa
open Go
/-! ## Renaming -/
mutual
def Tm.renO (to : List Int) : Int → Tm → Option Tm
  | d, .mk kd i j n ks => if kd = 2 then (if d ≤ i then (match to[(i - d).toNat]? with | some x => some (.mk kd (x + d) j n ks) | none => none) else some (.mk kd i j n ks)) else match Tm.renOs to kd d 0 ks with
    | some l => some (.mk kd i j n l)
    | none => none
def Tm.renOs (to : List Int) (kd d : Int) : Nat → List Tm → Option (List Tm)
  | _, [] => some []
  | i, x :: xs => match Tm.renO to (d + tbinds kd i) x, Tm.renOs to kd d (i + 1) xs with
    | some y, some ys => some (y :: ys)
    | _, _ => none
end
theorem Tm.renOs_kids (to : List Int) (kd d : Int) : ∀ (i : Nat) (l : List Tm), Tm.renOs to kd d i l = kidsM (fun i x => Tm.renO to (d + tbinds kd i) x) i l
  | _, [] => rfl
  | i, x :: xs => by
    simp only [Tm.renOs, kidsM, Tm.renOs_kids to kd d (i + 1) xs]
    rfl
theorem Tm.renO_eq (to : List Int) (d : Int) (t : Tm) : Tm.renO to d t = if t.kind = 2 then (if d ≤ t.i then (match to[(t.i - d).toNat]? with | some x => some (.mk t.kind (x + d) t.j t.n t.kids) | none => none) else some t) else match kidsM (fun i x => Tm.renO to (d + tbinds t.kind i) x) 0 t.kids with
    | some l => some (.mk t.kind t.i t.j t.n l)
    | none => none := by
  cases t with
  | mk kd i j n ks =>
    rw [← Tm.renOs_kids]
    rfl
def Fine (to : List Int) : Prop := ∀ x ∈ to, 0 ≤ x ∧ x ≤ 1073741824
theorem f130_ok (to : List Int) (ht : Fine to) (hto : to.length ≤ BIG) : ∀ (n : Nat) (t : Tm) (d : Int), t.size < n → t.size ≤ BIG → t.right = true → 0 ≤ d → d + 2 * t.size ≤ 1000000000 → f130 n t to d = some (out2 (Tm.renO to d t))
  | 0, t, d, h, _, _, _, _ => by omega
  | n + 1, t, d, h, hb, hr, hd0, hd => by
    have hl := Tm.len_kids t
    have hz : ∀ (t' : Tm), t'.kids = t.kids → t'.kind = t.kind → c130_1 (f130 n) n (l130_4 (f130 n) n n) to d t' 0 0 0 0 = match kidsM (fun i x => Tm.renO to (d + tbinds t.kind i) x) 0 t.kids with
        | some l => some (.mk t'.kind t'.i t'.j t'.n l, true)
        | none => some (tzero, false) := by
      intro t' ht' htk
      simp only [c130_1, o130_1, ht', ifB_eq]
      by_cases h0 : t.kids.length = 0
      · rw [if_pos (by simp [h0]), List.length_eq_zero_iff.1 h0]
        rfl
      · rw [if_neg (by simpa using h0), ckB_eq (by rw [BIG_eq] at hb; simp; omega)]
        have := fill_ok (L := fun m l i => l130_4 (f130 n) n m to d t' 0 0 0 0 l t.kids (t.kids.length : Int) i) (ks := t.kids)
          (B := fun i x c => (f129 t'.kind i).bind fun b => ckI (d + b) <| (f130 n x to (d + b)).bind fun r => if (!r.2) then some (Tm.mk 0 0 0 0 [], false) else c (Tm.mk r.1.kind r.1.i r.1.j r.1.n r.1.kids))
          (fin := fun l => some (Tm.mk t'.kind t'.i t'.j t'.n l, true)) (r0 := some (tzero, false)) (go := fun i x => Tm.renO to (d + tbinds t.kind i) x)
          (fun m l i => by simp only [l130_4, o130_4, ifB_eq]) (by omega) t.kids [] [] n rfl rfl (by omega) (fun i x c hi _ => by
            have hx := mem_of_get hi
            have hxs := Tm.size_kid hx
            have hbr := tbinds_range t.kind (i : Int)
            simp only [f129_eq, Option.bind_some, htk]
            rw [ckI_eq (by omega), f130_ok to ht hto n x _ (by omega) (by omega) (Tm.right_kid hr hx) (by omega) (by omega), Option.bind_some]
            cases Tm.renO to (d + tbinds t.kind i) x with
            | none => rfl
            | some y => simp [out2, Tm.eta])
        rw [len_nil] at this
        exact this
    simp only [f130, o130_0, ifB_eq]
    rw [Tm.renO_eq]
    by_cases hk : t.kind = 2
    · obtain ⟨v1, v2, v3, v4, v5⟩ := Tm.right_var hr hk
      rw [if_pos (by simpa using hk), if_pos hk]
      simp only [c130_2, o130_2, decide_eq_true_eq, ifB_eq]
      by_cases hfi : d ≤ t.i
      · rw [if_pos hfi, if_pos hfi, ckI_eq (by omega)]
        by_cases hbig : (to.length : Int) ≤ t.i - d
        · rw [if_pos hbig, List.getElem?_eq_none (by omega)]
          rfl
        · have hlt : (t.i - d).toNat < to.length := by omega
          have hg := List.getElem?_eq_getElem hlt
          have hx := ht _ (List.getElem_mem hlt)
          rw [if_neg hbig, ckI_eq (by omega), atI_eq (by omega) hg, ckI_eq (by omega), if_neg (by omega)]
          simp only [c130_3, o130_3, ifB_eq]
          rw [ckI_eq (by omega), atI_eq (by omega) hg, ckI_eq (by omega), hz (Tm.mk t.kind (to[(t.i - d).toNat] + d) t.j t.n t.kids) rfl rfl, v5, hg]
          rfl
      · rw [if_neg hfi, if_neg hfi, hz t rfl rfl, v5]
        simp only [kidsM, out2]
        have := Tm.eta t
        rw [v5] at this
        rw [this]
    · rw [if_neg (by simpa using hk), if_neg hk]
      simp only [c130_2, o130_2, Bool.false_eq_true, if_false, ifB_eq]
      rw [hz t rfl rfl]
      cases kidsM (fun i x => Tm.renO to (d + tbinds t.kind i) x) 0 t.kids <;> rfl

/-- When a renaming reaches all variables. -/
theorem kidsM_some {go : Nat → Tm → Option Tm} : ∀ {i : Nat} {l : List Tm}, (∀ (j : Nat) x, l[j]? = some x → ∃ y, go (i + j) x = some y) → ∃ ys, kidsM go i l = some ys
  | _, [], _ => ⟨[], rfl⟩
  | i, x :: xs, h => by
    obtain ⟨y, hy⟩ := h 0 x (by simp)
    obtain ⟨ys, hys⟩ := kidsM_some (go := go) (i := i + 1) (l := xs) (fun j y hj => by have := h (j + 1) y (by simpa using hj); rwa [show i + (j + 1) = i + 1 + j by omega] at this)
    rw [Nat.add_zero] at hy
    exact ⟨y :: ys, by simp [kidsM, hy, hys]⟩
theorem kidsM_none {go : Nat → Tm → Option Tm} : ∀ {i : Nat} {l : List Tm} {j : Nat} {x : Tm}, l[j]? = some x → go (i + j) x = none → kidsM go i l = none
  | _, [], _, _, h, _ => by simp at h
  | i, y :: xs, 0, x, h, hn => by
    simp at h
    subst h
    rw [Nat.add_zero] at hn
    simp [kidsM, hn]
  | i, y :: xs, j + 1, x, h, hn => by
    have := kidsM_none (go := go) (i := i + 1) (l := xs) (j := j) (by simpa using h) (by rwa [show i + 1 + j = i + (j + 1) by omega])
    simp only [kidsM, this]
    cases go i y <;> rfl
theorem frees_some {k b : Int} (hb : 0 ≤ b) : ∀ {i : Nat} {l : List Tm}, b < Tm.frees k i l → ∃ (j : Nat) (x : Tm), l[j]? = some x ∧ b < x.free - tbinds k (i + j : Nat)
  | _, [], h => by simp [Tm.frees] at h; omega
  | i, y :: xs, h => by
    simp only [Tm.frees] at h
    by_cases h0 : b < y.free - tbinds k i
    · exact ⟨0, y, by simp, by simpa using h0⟩
    · obtain ⟨j, x, hj, hx⟩ := frees_some (k := k) hb (i := i + 1) (l := xs) (by omega)
      exact ⟨j + 1, x, by simpa using hj, by rwa [show i + 1 + j = i + (j + 1) by omega] at hx⟩
theorem Tm.renO_some (to : List Int) : ∀ (n : Nat) (t : Tm) (d : Int), t.size < n → t.free ≤ d + to.length → ∃ y, Tm.renO to d t = some y
  | 0, t, d, h, _ => by omega
  | n + 1, t, d, h, hf => by
    rw [Tm.renO_eq]
    rw [Tm.free_eq] at hf
    by_cases hk : t.kind = 2
    · rw [if_pos hk] at hf ⊢
      by_cases hd : d ≤ t.i
      · rw [if_pos hd, List.getElem?_eq_getElem (by omega)]
        exact ⟨_, rfl⟩
      · rw [if_neg hd]; exact ⟨_, rfl⟩
    · rw [if_neg hk] at hf ⊢
      obtain ⟨ys, hys⟩ := kidsM_some (go := fun i x => Tm.renO to (d + tbinds t.kind i) x) (i := 0) (l := t.kids) (fun j x hj => by
        have hx := mem_of_get hj
        have := frees_get (k := t.kind) 0 t.kids j x hj
        exact Tm.renO_some to n x _ (by have := Tm.size_kid hx; omega) (by omega))
      rw [hys]
      exact ⟨_, rfl⟩
theorem Tm.renO_none (to : List Int) : ∀ (n : Nat) (t : Tm) (d : Int), t.size < n → 0 ≤ d → d + to.length < t.free → Tm.renO to d t = none
  | 0, t, d, h, _, _ => by omega
  | n + 1, t, d, h, hd0, hf => by
    rw [Tm.renO_eq]
    rw [Tm.free_eq] at hf
    by_cases hk : t.kind = 2
    · rw [if_pos hk] at hf ⊢
      rw [if_pos (by omega), List.getElem?_eq_none (by omega)]
    · rw [if_neg hk] at hf ⊢
      obtain ⟨j, x, hj, hx⟩ := frees_some (by omega : 0 ≤ d + (to.length : Int)) hf
      have hxm := mem_of_get hj
      have hb := tbinds_range t.kind ((0 + j : Nat) : Int)
      rw [kidsM_none (go := fun i x => Tm.renO to (d + tbinds t.kind i) x) hj (Tm.renO_none to n x _ (by have := Tm.size_kid hxm; omega) (by omega) (by omega))]

def fineB : List Int → Bool
  | [] => true
  | x :: xs => decide (0 ≤ x) && (decide (x ≤ 1073741824) && fineB xs)
theorem fineB_cons {x : Int} {xs : List Int} (h1 : ¬ x < 0) (h2 : ¬ 1073741824 < x) : fineB (x :: xs) = fineB xs := by simp [fineB, show 0 ≤ x by omega, show x ≤ 1073741824 by omega]
theorem fineB_lo {x : Int} {xs : List Int} (h1 : x < 0) : fineB (x :: xs) = false := by simp [fineB]; omega
theorem fineB_hi {x : Int} {xs : List Int} (h1 : 1073741824 < x) : fineB (x :: xs) = false := by simp [fineB]; omega
/-- The renamed term, or nothing. -/
def Tm.rename (t : Tm) (to : List Int) : Tm × Bool := if fineB to = true ∧ t.right = true then out2 (Tm.renO to 0 t) else (tzero, false)
theorem fine_iff : ∀ (to : List Int), fineB to = true ↔ Fine to
  | [] => by simp [fineB, Fine]
  | x :: xs => by
    have := fine_iff xs
    simp only [fineB, Bool.and_eq_true, decide_eq_true_eq, this, Fine, List.mem_cons, forall_eq_or_imp, and_assoc]
theorem l94_ok (n : Nat) (t : Tm) (to : List Int) (hb : to.length ≤ BIG) (r : Option (Tm × Bool)) (hr : (f87 n t).bind (fun x2 => if (!x2) = true then some (Tm.mk 0 0 0 0 [], false) else (f130 n t to 0).bind fun x3 => some (x3.1, x3.2)) = r) : ∀ (rest pre : List Int) (m : Nat), to = pre ++ rest → rest.length < m →
    l94_1 n m to t 0 0 0 0 to (to.length : Int) (pre.length : Int) = bif fineB rest then r else some (tzero, false) := by
  intro rest
  induction rest with
  | nil =>
    intro pre m hk hm
    obtain ⟨m, rfl⟩ := fuel hm
    simp only [l94_1, o94_1, decide_eq_true_eq, ifB_eq]
    rw [if_neg (ge_at hk), hr]
    rfl
  | cons x rest ih =>
    intro pre m hk hm
    obtain ⟨m, rfl⟩ := fuel hm
    simp only [List.length_cons] at hm
    have hp : pre.length ≤ BIG := by rw [hk] at hb; simp at hb; omega
    have := ih (pre ++ [x]) m (next_at hk) (by omega)
    rw [len_snoc] at this
    simp only [l94_1, o94_1, decide_eq_true_eq, ifB_eq]
    rw [if_pos (lt_at hk), atI_at hk, ckI_eq (idx_ok hp), this]
    by_cases h1 : x < 0
    · rw [if_pos h1, fineB_lo h1]; rfl
    · rw [if_neg h1]
      by_cases h2 : 1073741824 < x
      · rw [if_pos h2, fineB_hi h2]; rfl
      · rw [if_neg h2, fineB_cons h1 h2]
theorem f94_ok (n : Nat) (t : Tm) (to : List Int) (h : t.size < n) (hs : t.size ≤ 1000) (hto : to.length < n) (hb : to.length ≤ BIG) : f94 n t to = some (t.rename to) := by
  have hB : t.size ≤ BIG := by rw [BIG_eq]; omega
  simp only [f94, o94_0, ifB_eq]
  have := l94_ok n t to hb _ rfl to [] n rfl hto
  rw [len_nil] at this
  rw [this, f87_ok n t h hB, Option.bind_some]
  unfold Tm.rename
  by_cases hf : fineB to = true
  · rw [hf, cond_true]
    cases hr : t.right with
    | false => rw [if_pos (by simp), if_neg (by simp)]; rfl
    | true =>
      rw [if_neg (by simp), if_pos ⟨rfl, rfl⟩, f130_ok to ((fine_iff to).1 hf) hb n t 0 h hB hr (by omega) (by omega)]
      rfl
  · rw [Bool.eq_false_iff.2 hf, cond_false, if_neg (fun h => hf (by simpa using h.1))]
end Go.Proofs.Ytcaahmielncmpaa
