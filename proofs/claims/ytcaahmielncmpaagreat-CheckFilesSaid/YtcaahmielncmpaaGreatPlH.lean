/-
  Plain facts on what the functions compute.
-/
import Derived.Test.YtcaahmielncmpaaGreatPlG
set_option linter.unusedSimpArgs false
set_option linter.unusedVariables false
namespace Go.Proofs.YtcaahmielncmpaaGreat
open Go
/-- The lifted term, or the zero one. -/
def Tm.liftZ (k f : Int) (t : Tm) : Tm := if 0 ≤ k ∧ 0 ≤ f ∧ t.right = true then (Tm.lift k f t).getD tzero else tzero
theorem f93_ok (n : Nat) (t : Tm) (k f : Int) (hk1 : k ≤ 9223372036854775807) (h : t.size < n) (hb : t.size ≤ BIG) : f93 n t k f = some (Tm.liftZ k f t) := by
  simp only [f93, o93_0, ifB_eq]
  unfold Tm.liftZ
  rw [f91_ok n t h hb, Option.bind_some]
  by_cases h0 : k < 0
  · rw [if_pos (by simpa using h0), if_neg (by omega)]; rfl
  · rw [if_neg (by simpa using h0)]
    by_cases h1 : f < 0
    · rw [if_pos (by simpa using h1), if_neg (by omega)]; rfl
    · rw [if_neg (by simpa using h1)]
      cases hr : t.right with
      | false => rw [if_neg (by simp : ¬ (0 ≤ k ∧ 0 ≤ f ∧ false = true))]; rfl
      | true =>
        rw [if_neg (by simp : ¬ (!true) = true), if_pos ⟨by omega, by omega, rfl⟩]
        simp only [c93_1, o93_1, ifB_eq]
        have hfr := Tm.free_range t hr
        have e : Tm.lift k (min f 2147483648) t = Tm.lift k f t := by
          rcases Int.le_total f 2147483648 with h2 | h2
          · rw [Int.min_eq_left h2]
          · rw [Int.min_eq_right h2, Tm.lift_high k _ t 2147483648 (Nat.lt_succ_self _) hr (by omega), Tm.lift_high k _ t f (Nat.lt_succ_self _) hr (by omega)]
        rw [f121_ok k (by omega) hk1 n t _ h hb hr (by omega) (by rw [BIG_eq] at hb ⊢; omega), Option.bind_some, e]
        cases Tm.lift k f t <;> rfl

/-! ## Lifting without a bound -/
mutual
def Tm.up (k : Int) : Int → Tm → Tm
  | f, .mk kd i j n ks => if kd = 2 then .mk kd (if f ≤ i then i + k else i) j n ks else .mk kd i j n (Tm.ups k kd f 0 ks)
def Tm.ups (k kd f : Int) : Nat → List Tm → List Tm
  | _, [] => []
  | i, x :: xs => Tm.up k (f + tbinds kd i) x :: Tm.ups k kd f (i + 1) xs
end
theorem Tm.up_eq (k f : Int) (t : Tm) : Tm.up k f t = if t.kind = 2 then .mk t.kind (if f ≤ t.i then t.i + k else t.i) t.j t.n t.kids else .mk t.kind t.i t.j t.n (Tm.ups k t.kind f 0 t.kids) := by cases t; rfl
theorem Tm.ups_length (k kd f : Int) : ∀ (i : Nat) (l : List Tm), (Tm.ups k kd f i l).length = l.length
  | _, [] => rfl
  | i, x :: xs => by simp [Tm.ups, Tm.ups_length k kd f (i + 1) xs]
theorem Tm.deep_mem {x : Tm} : ∀ {l : List Tm}, x ∈ l → x.deep ≤ Tm.deeps l
  | [], h => by cases h
  | y :: l, h => by
    simp only [Tm.deeps]
    rcases List.mem_cons.1 h with rfl | h
    · omega
    · have := Tm.deep_mem h; omega
theorem Tm.deep_kid {t x : Tm} (h : x ∈ t.kids) : x.deep + 1 ≤ t.deep := by rw [Tm.deep_eq t]; have := Tm.deep_mem h; omega
theorem frees_get {k : Int} : ∀ (i : Nat) (l : List Tm) (j : Nat) (x : Tm), l[j]? = some x → x.free - tbinds k (i + j : Nat) ≤ Tm.frees k i l := by
  intro i l
  induction l generalizing i with
  | nil => intro j x h; simp at h
  | cons y l ih =>
    intro j x hj
    simp only [Tm.frees]
    cases j with
    | zero => simp at hj; subst hj; exact Int.le_max_left _ _
    | succ j =>
      have := ih (i + 1) j x (by simpa using hj)
      rw [show i + 1 + j = i + (j + 1) by omega] at this
      omega
theorem Tm.free_kid {t x : Tm} (hx : x ∈ t.kids) (hk : t.kind ≠ 2) : x.free ≤ t.free + 2 := by
  obtain ⟨j, hj⟩ := List.mem_iff_getElem?.1 hx
  have := frees_get (k := t.kind) 0 t.kids j x hj
  have := tbinds_range t.kind ((0 + j : Nat) : Int)
  rw [Tm.free_eq t, if_neg hk]
  omega
/-- How far variables may be lifted. -/
def Tm.room (t : Tm) (k : Int) : Prop := t.free + 2 * t.deep + k ≤ 2147483648
theorem Tm.room_kid {t x : Tm} {k : Int} (h : t.room k) (hx : x ∈ t.kids) (hk : t.kind ≠ 2) : x.room k := by
  unfold Tm.room at *
  have := Tm.free_kid hx hk
  have := Tm.deep_kid hx
  omega
theorem kidsM_ups {k kd f : Int} : ∀ {i : Nat} {l : List Tm}, (∀ (j : Nat) x, l[j]? = some x → Tm.lift k (f + tbinds kd (i + j : Nat)) x = some (Tm.up k (f + tbinds kd (i + j : Nat)) x)) → kidsM (fun i x => Tm.lift k (f + tbinds kd i) x) i l = some (Tm.ups k kd f i l)
  | _, [], _ => rfl
  | i, x :: xs, h => by
    have h0 := h 0 x (by simp)
    have h1 := kidsM_ups (k := k) (kd := kd) (f := f) (i := i + 1) (l := xs) (fun j y hj => by have := h (j + 1) y (by simpa using hj); rwa [show i + (j + 1) = i + 1 + j by omega] at this)
    simp only [kidsM, Tm.ups, h1]
    rw [Nat.add_zero] at h0
    rw [h0]
theorem Tm.lift_up (k : Int) (hk0 : 0 ≤ k) : ∀ (n : Nat) (t : Tm) (f : Int), t.size < n → t.right = true → t.room k → Tm.lift k f t = some (Tm.up k f t)
  | 0, t, f, h, _, _ => by omega
  | n + 1, t, f, h, hr, hroom => by
    rw [Tm.lift_eq, Tm.up_eq]
    by_cases hk : t.kind = 2
    · rw [if_pos hk, if_pos hk]
      unfold Tm.room at hroom
      rw [Tm.free_eq, if_pos hk] at hroom
      by_cases hf : f ≤ t.i
      · rw [if_pos hf, if_pos hf, if_neg (by omega)]
      · rw [if_neg hf, if_neg hf, Tm.eta]
    · rw [if_neg hk, if_neg hk, kidsM_ups fun j x hj => by
        have hx := mem_of_get hj
        exact Tm.lift_up k hk0 n x _ (by have := Tm.size_kid hx; omega) (Tm.right_kid hr hx) (Tm.room_kid hroom hx hk)]
mutual
theorem Tm.up_size (k : Int) : ∀ (f : Int) (t : Tm), (Tm.up k f t).size = t.size
  | f, .mk kd i j n ks => by
    simp only [Tm.up]
    split
    · rfl
    · simp only [Tm.size, Tm.ups_size k kd f 0 ks]
theorem Tm.ups_size (k kd f : Int) : ∀ (i : Nat) (l : List Tm), Tm.sizes (Tm.ups k kd f i l) = Tm.sizes l
  | _, [] => rfl
  | i, x :: xs => by simp only [Tm.ups, Tm.sizes, Tm.up_size k _ x, Tm.ups_size k kd f (i + 1) xs]
end
mutual
theorem Tm.up_free (k : Int) (hk : 0 ≤ k) : ∀ (f : Int) (t : Tm), 0 ≤ f → (Tm.up k f t).free = if t.free ≤ f then t.free else t.free + k
  | f, .mk kd i j n ks, hf => by
    simp only [Tm.up]
    by_cases h : kd = 2
    · simp only [h, if_true, Tm.free]
      split <;> split <;> omega
    · simp only [h, if_false, Tm.free, Tm.ups_free k hk kd f hf 0 ks]
theorem Tm.ups_free (k : Int) (hk : 0 ≤ k) (kd f : Int) (hf : 0 ≤ f) : ∀ (i : Nat) (l : List Tm), Tm.frees kd i (Tm.ups k kd f i l) = if Tm.frees kd i l ≤ f then Tm.frees kd i l else Tm.frees kd i l + k
  | _, [] => by simp [Tm.ups, Tm.frees, hf]
  | i, x :: xs => by
    have hb := tbinds_range kd i
    have h1 := Tm.up_free k hk (f + tbinds kd i) x (by omega)
    have h2 := Tm.ups_free k hk kd f hf (i + 1) xs
    simp only [Tm.ups, Tm.frees, h1, h2]
    repeat' split
    all_goals omega
end
theorem Tm.node_mk (k i j n : Int) (l : List Tm) : (Tm.mk k i j n l).node = (decide ((l.length : Int) = tkids k n) && tnums k i j n) := rfl
/-- A lifted term is of its sort. -/
theorem Tm.up_sort (k : Int) (hk0 : 0 ≤ k) : ∀ (n : Nat) (t : Tm) (f : Int), t.size < n → t.right = true → t.room k → (Tm.up k f t).marked = t.marked ∧ (Tm.up k f t).plain = t.plain
  | 0, t, f, h, _, _ => by omega
  | n + 1, t, f, h, hr, hroom => by
    have hkind : (Tm.up k f t).kind = t.kind := by rw [Tm.up_eq]; split <;> rfl
    have hkids : ∀ (x : Tm), x ∈ t.kids → t.kind ≠ 2 → ∀ g, (Tm.up k g x).marked = x.marked ∧ (Tm.up k g x).plain = x.plain := fun x hx hk g => Tm.up_sort k hk0 n x g (by have := Tm.size_kid hx; omega) (Tm.right_kid hr hx) (Tm.room_kid hroom hx hk)
    have hn := Tm.right_node hr
    by_cases hk : t.kind = 2
    · obtain ⟨v1, v2, v3, v4, v5⟩ := Tm.right_var hr hk
      have e : Tm.up k f t = .mk t.kind (if f ≤ t.i then t.i + k else t.i) t.j t.n t.kids := by rw [Tm.up_eq, if_pos hk]
      have hnode : (Tm.up k f t).node = true := by
        rw [e, Tm.node_mk, v5, hk, v3, v4]
        unfold Tm.room at hroom
        rw [Tm.free_eq, if_pos hk] at hroom
        have : 0 ≤ (if f ≤ t.i then t.i + k else t.i) ∧ (if f ≤ t.i then t.i + k else t.i) ≤ 2147483647 := by split <;> omega
        simp [tkids, tnums, this.1, this.2]
      have hkk : (Tm.up k f t).kids = [] := by rw [e]; exact v5
      constructor
      · rw [Tm.marked_eq, Tm.marked_eq t, hkind, hnode, hn, hkk, v5]
      · rw [Tm.plain_eq, Tm.plain_eq t, hkind, hnode, hn, hkk, v5]
    · have e : Tm.up k f t = .mk t.kind t.i t.j t.n (Tm.ups k t.kind f 0 t.kids) := by rw [Tm.up_eq, if_neg hk]
      have hnode : (Tm.up k f t).node = t.node := by
        rw [e, Tm.node_mk, Tm.ups_length]; rfl
      have hm : ∀ (kd : Int) (i : Nat) (l : List Tm), (∀ x ∈ l, x ∈ t.kids) → Tm.markeds kd i (Tm.ups k t.kind f i l) = Tm.markeds kd i l := by
        intro kd i l
        induction l generalizing i with
        | nil => intro _; rfl
        | cons x xs ih =>
          intro hl
          have h1 := hkids x (hl x (by simp)) hk (f + tbinds t.kind i)
          simp only [Tm.ups, Tm.markeds, h1.1, h1.2, ih (i + 1) (fun y hy => hl y (by simp [hy]))]
      have hp : ∀ (i : Nat) (l : List Tm), (∀ x ∈ l, x ∈ t.kids) → Tm.plains (Tm.ups k t.kind f i l) = Tm.plains l := by
        intro i l
        induction l generalizing i with
        | nil => intro _; rfl
        | cons x xs ih =>
          intro hl
          have h1 := hkids x (hl x (by simp)) hk (f + tbinds t.kind i)
          simp only [Tm.ups, Tm.plains, h1.2, ih (i + 1) (fun y hy => hl y (by simp [hy]))]
      have hkk : (Tm.up k f t).kids = Tm.ups k t.kind f 0 t.kids := by rw [e]; rfl
      constructor
      · rw [Tm.marked_eq, Tm.marked_eq t, hkind, hnode, hkk, hm _ _ _ (fun x hx => hx)]
      · rw [Tm.plain_eq, Tm.plain_eq t, hkind, hnode, hkk, hp _ _ (fun x hx => hx)]
end Go.Proofs.YtcaahmielncmpaaGreat
