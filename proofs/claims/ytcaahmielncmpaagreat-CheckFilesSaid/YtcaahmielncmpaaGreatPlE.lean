/-
  Plain facts on what the functions compute.
-/
import Derived.Test.YtcaahmielncmpaaGreatPlainA
import Derived.Test.YtcaahmielncmpaaGreatGenE
set_option linter.unusedSimpArgs false
set_option linter.unusedVariables false
namespace Go.Proofs.YtcaahmielncmpaaGreat
open Go

/-! ## Loops that make a list -/
section
variable {R : Type}
/-- Each kid, with its index; none: one of them fails. -/
def kidsM (go : Nat → Tm → Option Tm) : Nat → List Tm → Option (List Tm)
  | _, [] => some []
  | i, x :: xs => match go i x, kidsM go (i + 1) xs with
    | some y, some ys => some (y :: ys)
    | _, _ => none
theorem set_mid (d zs : List Tm) (z x : Tm) : (d ++ z :: zs).set d.length x = (d ++ [x]) ++ zs := by
  rw [List.set_append_right (h := Nat.le_refl _)]
  simp
def tzero : Tm := .mk 0 0 0 0 []

theorem fill_ok {L : Nat → List Tm → Int → Option R} {ks : List Tm} {B : Int → Tm → (Tm → Option R) → Option R} {fin : List Tm → Option R} {r0 : Option R} {go : Nat → Tm → Option Tm}
    (hL : ∀ m l i, L (m + 1) l i = if decide (i < (ks.length : Int)) then atI ks i fun x => B i x fun y => ckB (decide (0 ≤ i) && decide (i < (l.length : Int))) <| ckB (decide (i.toNat < l.length)) <| ckI (i + 1) <| L m (l.set i.toNat y) (i + 1) else fin l)
    (hb : ks.length ≤ BIG) : ∀ (rest pre done : List Tm) (m : Nat), ks = pre ++ rest → done.length = pre.length → rest.length < m →
    (∀ (i : Nat) x k, ks[i]? = some x → pre.length ≤ i → B (i : Int) x k = match go i x with | some y => k y | none => r0) →
    L m (done ++ List.replicate rest.length tzero) (pre.length : Int) = match kidsM go pre.length rest with | some ys => fin (done ++ ys) | none => r0 := by
  intro rest
  induction rest with
  | nil =>
    intro pre done m hk hd hm _
    obtain ⟨m, rfl⟩ := fuel hm
    rw [hL, if_neg (by simpa using ge_at hk)]
    simp [kidsM]
  | cons x rest ih =>
    intro pre done m hk hd hm hB
    obtain ⟨m, rfl⟩ := fuel hm
    simp only [List.length_cons] at hm
    have hp : pre.length ≤ BIG := by rw [hk] at hb; simp at hb; omega
    have hx : ks[pre.length]? = some x := by rw [hk]; simp
    rw [hL, if_pos (by simpa using lt_at hk), atI_at hk, hB pre.length x _ hx (Nat.le_refl _)]
    simp only [kidsM]
    cases hgo : go pre.length x with
    | none => rfl
    | some y =>
      simp only
      have := ih (pre ++ [x]) (done ++ [y]) m (next_at hk) (by simp [hd]) (by omega) (fun i x k hi hle => hB i x k hi (by simp at hle; omega))
      rw [len_snoc, List.length_append, List.length_singleton] at this
      have e : List.replicate (x :: rest).length tzero = tzero :: List.replicate rest.length tzero := by simp [List.replicate_succ]
      rw [e, show (pre.length : Int).toNat = done.length by rw [hd]; omega, set_mid, ckB_eq (by simp; omega), ckB_eq (by simp), ckI_eq (idx_ok hp), this]
      cases kidsM go (pre.length + 1) rest with
      | none => rfl
      | some ys => simp

theorem app_ok {L : Nat → List Tm → Int → Option R} {ks : List Tm} {B : Int → Tm → (Tm → Option R) → Option R} {fin : List Tm → Option R} {r0 : Option R} {go : Nat → Tm → Option Tm}
    (hL : ∀ m l i, L (m + 1) l i = if decide (i < (ks.length : Int)) then atI ks i fun x => B i x fun y => ckB (decide ((l.length + [y].length) * 56 ≤ 140737488355328) && decide (l.length + [y].length ≤ 9223372036854775807)) <| ckI (i + 1) <| L m (l ++ [y]) (i + 1) else fin l)
    (hb : ks.length ≤ BIG) : ∀ (rest pre done : List Tm) (m : Nat), ks = pre ++ rest → done.length = pre.length → rest.length < m →
    (∀ (i : Nat) x k, ks[i]? = some x → pre.length ≤ i → B (i : Int) x k = match go i x with | some y => k y | none => r0) →
    L m done (pre.length : Int) = match kidsM go pre.length rest with | some ys => fin (done ++ ys) | none => r0 := by
  intro rest
  induction rest with
  | nil =>
    intro pre done m hk hd hm _
    obtain ⟨m, rfl⟩ := fuel hm
    rw [hL, if_neg (by simpa using ge_at hk)]
    simp [kidsM]
  | cons x rest ih =>
    intro pre done m hk hd hm hB
    obtain ⟨m, rfl⟩ := fuel hm
    simp only [List.length_cons] at hm
    have hp : pre.length ≤ BIG := by rw [hk] at hb; simp at hb; omega
    have hp2 : pre.length + 1 ≤ BIG := by rw [hk] at hb; simp at hb; omega
    have hx : ks[pre.length]? = some x := by rw [hk]; simp
    rw [hL, if_pos (by simpa using lt_at hk), atI_at hk, hB pre.length x _ hx (Nat.le_refl _)]
    simp only [kidsM]
    cases hgo : go pre.length x with
    | none => rfl
    | some y =>
      simp only
      have := ih (pre ++ [x]) (done ++ [y]) m (next_at hk) (by simp [hd]) (by omega) (fun i x k hi hle => hB i x k hi (by simp at hle; omega))
      rw [len_snoc, List.length_append, List.length_singleton] at this
      rw [BIG_eq] at hp2
      rw [ckB_eq (by simp; omega), ckI_eq (idx_ok hp), this]
      cases kidsM go (pre.length + 1) rest with
      | none => rfl
      | some ys => simp
end
theorem mem_of_get {ks : List Tm} {i : Nat} {x : Tm} (h : ks[i]? = some x) : x ∈ ks := List.mem_of_getElem? h

/-- All kids turned alike. -/
theorem kidsM_map (f : Tm → Tm) : ∀ (i : Nat) (l : List Tm), kidsM (fun _ x => some (f x)) i l = some (l.map f)
  | _, [] => rfl
  | i, x :: xs => by simp [kidsM, kidsM_map f (i + 1) xs]

/-! ## Copies -/
theorem f35_ok : ∀ (n : Nat) (t : Tm), t.size < n → t.size ≤ BIG → f35 n t = some t
  | 0, t, h, _ => by omega
  | n + 1, t, h, hb => by
    have hl := Tm.len_kids t
    simp only [f35, o35_0, ifB_eq]
    by_cases h0 : t.kids.length = 0
    · have h1 : t.kids = [] := List.length_eq_zero_iff.1 h0
      rw [if_pos (by simp [h0])]
      have := Tm.eta t
      rw [h1] at this
      rw [this]
    · rw [if_neg (by simpa using h0), ckB_eq (by rw [BIG_eq] at hb; simp; omega)]
      have := fill_ok (L := fun m l i => l35_1 (f35 n) n m t 0 0 0 0 l t.kids (t.kids.length : Int) i) (ks := t.kids) (B := fun _ x k => (f35 n x).bind fun y => k (Tm.mk y.kind y.i y.j y.n y.kids)) (fin := fun l => some (Tm.mk t.kind t.i t.j t.n l)) (r0 := none) (go := fun _ x => some x)
        (fun m l i => by simp only [l35_1, o35_1, ifB_eq]) (by omega) t.kids [] [] n rfl rfl (by omega) (fun i x k hi _ => by
          have hx := mem_of_get hi
          show (f35 n x).bind _ = k x
          rw [f35_ok n x (by have := Tm.size_kid hx; omega) (by have := Tm.size_kid hx; omega), Option.bind_some, Tm.eta])
      rw [len_nil, show (fun (_ : Nat) (x : Tm) => some x) = (fun _ x => some (id x)) from rfl, kidsM_map] at this
      simp only [List.nil_append, List.map_id, Tm.eta] at this
      exact this

/-! ## Erasing -/
mutual
def Tm.erase : Tm → Tm
  | .mk k i j n ks => if k = 12 then Tm.eraseAt ks 3 else .mk k i j n (Tm.erases ks)
def Tm.erases : List Tm → List Tm
  | [] => []
  | x :: xs => x.erase :: Tm.erases xs
def Tm.eraseAt : List Tm → Nat → Tm
  | [], _ => tzero
  | x :: _, 0 => x.erase
  | _ :: xs, i + 1 => Tm.eraseAt xs i
end
theorem Tm.erases_map (l : List Tm) : Tm.erases l = l.map Tm.erase := by
  induction l with
  | nil => rfl
  | cons x xs ih => simp [Tm.erases, ih]
theorem Tm.eraseAt_get : ∀ {l : List Tm} {i : Nat} {x : Tm}, l[i]? = some x → Tm.eraseAt l i = x.erase
  | [], _, _, h => by simp at h
  | y :: l, 0, x, h => by simp at h; subst h; rfl
  | y :: l, i + 1, x, h => by simp only [Tm.eraseAt]; exact Tm.eraseAt_get (by simpa using h)
theorem Tm.erase_eq (t : Tm) : t.erase = if t.kind = 12 then Tm.eraseAt t.kids 3 else .mk t.kind t.i t.j t.n (t.kids.map Tm.erase) := by
  cases t with
  | mk k i j n ks =>
    rw [← Tm.erases_map]
    rfl

theorem Tm.marked_len {t : Tm} (h : t.marked = true) (hk : t.kind = 12) : t.kids.length = 4 := by
  rw [Tm.marked_eq] at h
  simp only [Bool.and_eq_true] at h
  have hn := h.2.1
  unfold Tm.node at hn
  simp only [Bool.and_eq_true, decide_eq_true_eq] at hn
  rw [hk] at hn
  have : tkids 12 t.n = 4 := by simp [tkids]
  omega
theorem Tm.markeds_at {k : Int} : ∀ {i : Nat} {ks : List Tm} {j : Nat} {x : Tm}, Tm.markeds k i ks = true → ks[j]? = some x → (if k = 12 ∧ i + j = 2 then x.plain else x.marked) = true
  | i, [], j, x, _, h => by simp at h
  | i, y :: ks, 0, x, h, hj => by
    simp only [Tm.markeds, Bool.and_eq_true] at h
    simp at hj
    subst hj
    simpa using h.1
  | i, y :: ks, j + 1, x, h, hj => by
    simp only [Tm.markeds, Bool.and_eq_true] at h
    have := Tm.markeds_at h.2 (show ks[j]? = some x by simpa using hj)
    rwa [show i + 1 + j = i + (j + 1) by omega] at this
theorem Tm.marked_kid {t x : Tm} {j : Nat} (h : t.marked = true) (hj : t.kids[j]? = some x) (hne : ¬ (t.kind = 12 ∧ j = 2)) : x.marked = true := by
  rw [Tm.marked_eq] at h
  simp only [Bool.and_eq_true] at h
  have := Tm.markeds_at h.2.2 hj
  rw [Nat.zero_add, if_neg hne] at this
  exact this
theorem Tm.marked_last {t : Tm} (h : t.marked = true) (hk : t.kind = 12) : ∃ x, t.kids[3]? = some x ∧ x.marked = true ∧ x ∈ t.kids ∧ Tm.eraseAt t.kids 3 = x.erase := by
  have hl := Tm.marked_len h hk
  refine ⟨t.kids[3]'(by omega), by simp, Tm.marked_kid (j := 3) h (by simp) (by omega), List.getElem_mem _, Tm.eraseAt_get (by simp)⟩

theorem l123_ok (s : Tm → Tm → Option Bool) (n : Nat) (t u : Tm) (hb : t.kids.length ≤ BIG) : ∀ (r r' pre pre' : List Tm) (m : Nat), t.kids = pre ++ r → u.kids = pre' ++ r' → pre.length = pre'.length → r.length = r'.length → r.length < m → (∀ k ∈ r, ∀ k', s k k' = some (k.same k')) →
    l118_2 s n m t u (pre.length : Int) = some (Tm.sames r r') := by
  intro r
  induction r with
  | nil =>
    intro r' pre pre' m hk hk' hp hr hm _
    obtain ⟨m, rfl⟩ := fuel hm
    obtain rfl : r' = [] := List.length_eq_zero_iff.1 hr.symm
    simp only [l118_2, o118_2, decide_eq_true_eq, ifB_eq]
    rw [if_neg (ge_at hk)]
    rfl
  | cons x r ih =>
    intro r' pre pre' m hk hk' hp hr hm hs
    obtain ⟨m, rfl⟩ := fuel hm
    match r', hr with
    | y :: r', hr =>
      simp only [List.length_cons] at hm hr
      have hpl : pre.length ≤ BIG := by rw [hk] at hb; simp at hb; omega
      have := ih r' (pre ++ [x]) (pre' ++ [y]) m (next_at hk) (next_at hk') (by simp [hp]) (by omega) (by omega) (fun k hk => hs k (by simp [hk]))
      rw [len_snoc] at this
      simp only [l118_2, o118_2, decide_eq_true_eq, ifB_eq]
      have h2 := fun (k : Tm → Option Bool) => atI_at hk' k
      rw [← hp] at h2
      rw [if_pos (lt_at hk), atI_at hk, h2, hs x (by simp), Option.bind_some, ckI_eq (idx_ok hpl), this]
      simp only [Tm.sames]
      cases x.same y <;> rfl
theorem f118_ok : ∀ (n : Nat) (a b : Tm), a.size < n → a.size ≤ BIG → f118 n a b = some (a.same b)
  | 0, a, b, h, _ => by omega
  | n + 1, a, b, h, hb => by
    have hl := Tm.len_kids a
    simp only [f118, o118_0, c118_1, o118_1, ifB_eq]
    rw [Tm.same_eq]
    by_cases hlen : a.kids.length = b.kids.length
    · have h1 := l123_ok (f118 n) n a b (by omega) a.kids b.kids [] [] n rfl rfl rfl hlen (by omega) (fun k hk k' => f118_ok n k k' (by have := Tm.size_kid hk; omega) (by have := Tm.size_kid hk; omega))
      rw [len_nil] at h1
      rw [h1]
      have : (a.kids.length : Int) = b.kids.length := by omega
      simp only [this, decide_true, Bool.not_true, Bool.false_eq_true, if_false]
      grind
    · have : ¬ (a.kids.length : Int) = b.kids.length := by omega
      simp only [Tm.sames_length hlen, this, decide_false, Bool.not_false, if_true]
      grind
end Go.Proofs.YtcaahmielncmpaaGreat
