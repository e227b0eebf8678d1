/-
  Plain facts on what the functions compute.
-/
import Derived.Test.YtcaahmielncmpaaPlD
import Derived.Test.YtcaahmielncmpaaGenE
set_option linter.unusedSimpArgs false
set_option linter.unusedVariables false
namespace Go.Proofs.Ytcaahmielncmpaa
open Go

/-! ## Loops that make a list -/
section
variable {R : Type}
/-- Each kid, with its index; none: one of them fails. -/
def kidsM (go : Nat → Tm → Option Tm) : Nat → List Tm → Option (List Tm)
  | _, [] => some []
  | i, x :: xs => match go i x, kidsM go (i + 1) xs with
    | some y, some ys => some (y :: ys)
    | _, _ => none
theorem kidsM_length {go : Nat → Tm → Option Tm} : ∀ {i : Nat} {l r : List Tm}, kidsM go i l = some r → r.length = l.length
  | _, [], r, h => by cases h; rfl
  | i, x :: xs, r, h => by
    simp only [kidsM] at h
    split at h
    · rename_i h1 h2
      cases h
      simp [kidsM_length h2]
    · cases h
theorem set_mid (d zs : List Tm) (z x : Tm) : (d ++ z :: zs).set d.length x = (d ++ [x]) ++ zs := by
  rw [List.set_append_right (h := Nat.le_refl _)]
  simp
def tzero : Tm := .mk 0 0 0 0 []

theorem fill_ok {L : Nat → List Tm → Int → Option R} {ks : List Tm} {B : Int → Tm → (Tm → Option R) → Option R} {fin : List Tm → Option R} {r0 : Option R} {go : Nat → Tm → Option Tm}
    (hL : ∀ m l i, L (m + 1) l i = if decide (i < (ks.length : Int)) then atI ks i fun x => B i x fun y => ckB (decide (0 ≤ i) && decide (i < (l.length : Int))) <| ckB (decide (i.toNat < l.length)) <| ckI (i + 1) <| L m (l.set i.toNat y) (i + 1) else fin l)
    (hb : ks.length ≤ BIG) : ∀ (rest pre done : List Tm) (m : Nat), ks = pre ++ rest → done.length = pre.length → rest.length < m →
    (∀ (i : Nat) x k, ks[i]? = some x → pre.length ≤ i → B (i : Int) x k = match go i x with | some y => k y | none => r0) →
    L m (done ++ List.replicate rest.length tzero) (pre.length : Int) = match kidsM go pre.length rest with | some ys => fin (done ++ ys) | none => r0 := by
  intro rest
  induction rest with
  | nil =>
    intro pre done m hk hd hm _
    obtain ⟨m, rfl⟩ := fuel hm
    rw [hL, if_neg (by simpa using ge_at hk)]
    simp [kidsM]
  | cons x rest ih =>
    intro pre done m hk hd hm hB
    obtain ⟨m, rfl⟩ := fuel hm
    simp only [List.length_cons] at hm
    have hp : pre.length ≤ BIG := by rw [hk] at hb; simp at hb; omega
    have hx : ks[pre.length]? = some x := by rw [hk]; simp
    rw [hL, if_pos (by simpa using lt_at hk), atI_at hk, hB pre.length x _ hx (Nat.le_refl _)]
    simp only [kidsM]
    cases hgo : go pre.length x with
    | none => rfl
    | some y =>
      simp only
      have := ih (pre ++ [x]) (done ++ [y]) m (next_at hk) (by simp [hd]) (by omega) (fun i x k hi hle => hB i x k hi (by simp at hle; omega))
      rw [len_snoc, List.length_append, List.length_singleton] at this
      have e : List.replicate (x :: rest).length tzero = tzero :: List.replicate rest.length tzero := by simp [List.replicate_succ]
      rw [e, show (pre.length : Int).toNat = done.length by rw [hd]; omega, set_mid, ckB_eq (by simp; omega), ckB_eq (by simp), ckI_eq (idx_ok hp), this]
      cases kidsM go (pre.length + 1) rest with
      | none => rfl
      | some ys => simp

theorem app_ok {L : Nat → List Tm → Int → Option R} {ks : List Tm} {B : Int → Tm → (Tm → Option R) → Option R} {fin : List Tm → Option R} {r0 : Option R} {go : Nat → Tm → Option Tm}
    (hL : ∀ m l i, L (m + 1) l i = if decide (i < (ks.length : Int)) then atI ks i fun x => B i x fun y => ckB (decide ((l.length + [y].length) * 56 ≤ 140737488355328) && decide (l.length + [y].length ≤ 9223372036854775807)) <| ckI (i + 1) <| L m (l ++ [y]) (i + 1) else fin l)
    (hb : ks.length ≤ BIG) : ∀ (rest pre done : List Tm) (m : Nat), ks = pre ++ rest → done.length = pre.length → rest.length < m →
    (∀ (i : Nat) x k, ks[i]? = some x → pre.length ≤ i → B (i : Int) x k = match go i x with | some y => k y | none => r0) →
    L m done (pre.length : Int) = match kidsM go pre.length rest with | some ys => fin (done ++ ys) | none => r0 := by
  intro rest
  induction rest with
  | nil =>
    intro pre done m hk hd hm _
    obtain ⟨m, rfl⟩ := fuel hm
    rw [hL, if_neg (by simpa using ge_at hk)]
    simp [kidsM]
  | cons x rest ih =>
    intro pre done m hk hd hm hB
    obtain ⟨m, rfl⟩ := fuel hm
    simp only [List.length_cons] at hm
    have hp : pre.length ≤ BIG := by rw [hk] at hb; simp at hb; omega
    have hp2 : pre.length + 1 ≤ BIG := by rw [hk] at hb; simp at hb; omega
    have hx : ks[pre.length]? = some x := by rw [hk]; simp
    rw [hL, if_pos (by simpa using lt_at hk), atI_at hk, hB pre.length x _ hx (Nat.le_refl _)]
    simp only [kidsM]
    cases hgo : go pre.length x with
    | none => rfl
    | some y =>
      simp only
      have := ih (pre ++ [x]) (done ++ [y]) m (next_at hk) (by simp [hd]) (by omega) (fun i x k hi hle => hB i x k hi (by simp at hle; omega))
      rw [len_snoc, List.length_append, List.length_singleton] at this
      rw [BIG_eq] at hp2
      rw [ckB_eq (by simp; omega), ckI_eq (idx_ok hp), this]
      cases kidsM go (pre.length + 1) rest with
      | none => rfl
      | some ys => simp
end
theorem mem_of_get {ks : List Tm} {i : Nat} {x : Tm} (h : ks[i]? = some x) : x ∈ ks := List.mem_of_getElem? h

/-- All kids turned alike. -/
theorem kidsM_map (f : Tm → Tm) : ∀ (i : Nat) (l : List Tm), kidsM (fun _ x => some (f x)) i l = some (l.map f)
  | _, [] => rfl
  | i, x :: xs => by simp [kidsM, kidsM_map f (i + 1) xs]

/-! ## Copies -/
theorem f102_ok : ∀ (n : Nat) (t : Tm), t.size < n → t.size ≤ BIG → f102 n t = some t
  | 0, t, h, _ => by omega
  | n + 1, t, h, hb => by
    have hl := Tm.len_kids t
    simp only [f102, o102_0, ifB_eq]
    by_cases h0 : t.kids.length = 0
    · have h1 : t.kids = [] := List.length_eq_zero_iff.1 h0
      rw [if_pos (by simp [h0])]
      have := Tm.eta t
      rw [h1] at this
      rw [this]
    · rw [if_neg (by simpa using h0), ckB_eq (by rw [BIG_eq] at hb; simp; omega)]
      have := fill_ok (L := fun m l i => l102_1 (f102 n) n m t 0 0 0 0 l t.kids (t.kids.length : Int) i) (ks := t.kids) (B := fun _ x k => (f102 n x).bind fun y => k (Tm.mk y.kind y.i y.j y.n y.kids)) (fin := fun l => some (Tm.mk t.kind t.i t.j t.n l)) (r0 := none) (go := fun _ x => some x)
        (fun m l i => by simp only [l102_1, o102_1, ifB_eq]) (by omega) t.kids [] [] n rfl rfl (by omega) (fun i x k hi _ => by
          have hx := mem_of_get hi
          show (f102 n x).bind _ = k x
          rw [f102_ok n x (by have := Tm.size_kid hx; omega) (by have := Tm.size_kid hx; omega), Option.bind_some, Tm.eta])
      rw [len_nil, show (fun (_ : Nat) (x : Tm) => some x) = (fun _ x => some (id x)) from rfl, kidsM_map] at this
      simp only [List.nil_append, List.map_id, Tm.eta] at this
      exact this

/-! ## Erasing -/
mutual
def Tm.erase : Tm → Tm
  | .mk k i j n ks => if k = 12 then Tm.eraseAt ks 3 else .mk k i j n (Tm.erases ks)
def Tm.erases : List Tm → List Tm
  | [] => []
  | x :: xs => x.erase :: Tm.erases xs
def Tm.eraseAt : List Tm → Nat → Tm
  | [], _ => tzero
  | x :: _, 0 => x.erase
  | _ :: xs, i + 1 => Tm.eraseAt xs i
end
theorem Tm.erases_map (l : List Tm) : Tm.erases l = l.map Tm.erase := by
  induction l with
  | nil => rfl
  | cons x xs ih => simp [Tm.erases, ih]
theorem Tm.eraseAt_get : ∀ {l : List Tm} {i : Nat} {x : Tm}, l[i]? = some x → Tm.eraseAt l i = x.erase
  | [], _, _, h => by simp at h
  | y :: l, 0, x, h => by simp at h; subst h; rfl
  | y :: l, i + 1, x, h => by simp only [Tm.eraseAt]; exact Tm.eraseAt_get (by simpa using h)
theorem Tm.erase_eq (t : Tm) : t.erase = if t.kind = 12 then Tm.eraseAt t.kids 3 else .mk t.kind t.i t.j t.n (t.kids.map Tm.erase) := by
  cases t with
  | mk k i j n ks =>
    rw [← Tm.erases_map]
    rfl

theorem Tm.marked_len {t : Tm} (h : t.marked = true) (hk : t.kind = 12) : t.kids.length = 4 := by
  rw [Tm.marked_eq] at h
  simp only [Bool.and_eq_true] at h
  have hn := h.2.1
  unfold Tm.node at hn
  simp only [Bool.and_eq_true, decide_eq_true_eq] at hn
  rw [hk] at hn
  have : tkids 12 t.n = 4 := by simp [tkids]
  omega
theorem Tm.markeds_at {k : Int} : ∀ {i : Nat} {ks : List Tm} {j : Nat} {x : Tm}, Tm.markeds k i ks = true → ks[j]? = some x → (if k = 12 ∧ i + j = 2 then x.plain else x.marked) = true
  | i, [], j, x, _, h => by simp at h
  | i, y :: ks, 0, x, h, hj => by
    simp only [Tm.markeds, Bool.and_eq_true] at h
    simp at hj
    subst hj
    simpa using h.1
  | i, y :: ks, j + 1, x, h, hj => by
    simp only [Tm.markeds, Bool.and_eq_true] at h
    have := Tm.markeds_at h.2 (show ks[j]? = some x by simpa using hj)
    rwa [show i + 1 + j = i + (j + 1) by omega] at this
theorem Tm.marked_kid {t x : Tm} {j : Nat} (h : t.marked = true) (hj : t.kids[j]? = some x) (hne : ¬ (t.kind = 12 ∧ j = 2)) : x.marked = true := by
  rw [Tm.marked_eq] at h
  simp only [Bool.and_eq_true] at h
  have := Tm.markeds_at h.2.2 hj
  rw [Nat.zero_add, if_neg hne] at this
  exact this
theorem Tm.marked_last {t : Tm} (h : t.marked = true) (hk : t.kind = 12) : ∃ x, t.kids[3]? = some x ∧ x.marked = true ∧ x ∈ t.kids ∧ Tm.eraseAt t.kids 3 = x.erase := by
  have hl := Tm.marked_len h hk
  refine ⟨t.kids[3]'(by omega), by simp, Tm.marked_kid (j := 3) h (by simp) (by omega), List.getElem_mem _, Tm.eraseAt_get (by simp)⟩

theorem f77_ok : ∀ (n : Nat) (t : Tm), t.size < n → t.size ≤ BIG → t.marked = true → f77 n t = some t.erase
  | 0, t, h, _, _ => by omega
  | n + 1, t, h, hb, hm => by
    have hl := Tm.len_kids t
    simp only [f77, o77_0, ifB_eq]
    rw [Tm.erase_eq]
    by_cases h12 : t.kind = 12
    · obtain ⟨x, hx, hxm, hxk, he⟩ := Tm.marked_last hm h12
      have := Tm.size_kid hxk
      rw [if_pos (by simpa using h12), if_pos h12, atI_eq (by omega) (show t.kids[(3 : Int).toNat]? = some x from hx), f77_ok n x (by omega) (by omega) hxm, he]
      rfl
    · rw [if_neg (by simpa using h12), if_neg h12]
      have := app_ok (L := fun m l i => l77_1 (f77 n) n m t 0 0 0 0 t.kind t.i t.j t.n l i) (ks := t.kids) (B := fun _ x k => (f77 n x).bind fun y => k (Tm.mk y.kind y.i y.j y.n y.kids)) (fin := fun l => some (Tm.mk t.kind t.i t.j t.n l)) (r0 := none) (go := fun _ x => some x.erase)
        (fun m l i => by simp only [l77_1, o77_1, ifB_eq]) (by omega) t.kids [] [] n rfl rfl (by omega) (fun i x k hi _ => by
          have hx := mem_of_get hi
          have := Tm.size_kid hx
          show (f77 n x).bind _ = k x.erase
          rw [f77_ok n x (by omega) (by omega) (Tm.marked_kid hm hi (fun h => h12 h.1)), Option.bind_some, Tm.eta])
      rw [len_nil, kidsM_map] at this
      exact this
theorem l117_ok (n : Nat) (s : Tm → Option Tm) : ∀ (m : Nat) (t : Tm) (a b c d : Int), t.size < m → t.size ≤ BIG → t.marked = true → (∀ x : Tm, x.size < t.size → x.marked = true → s x = some x.erase) → l80_1 s n m t a b c d = some t.erase
  | 0, t, a, b, c, d, h, _, _, _ => by omega
  | m + 1, t, a, b, c, d, h, hb, hm, hs => by
    have hl := Tm.len_kids t
    simp only [l80_1, o80_1, ifB_eq]
    rw [Tm.erase_eq]
    by_cases h12 : t.kind = 12
    · obtain ⟨x, hx, hxm, hxk, he⟩ := Tm.marked_last hm h12
      have := Tm.size_kid hxk
      rw [if_pos (by simpa using h12), if_pos h12, atI_eq (by omega) (show t.kids[(3 : Int).toNat]? = some x from hx), l117_ok n s m x a b c d (by omega) (by omega) hxm (fun y hy hym => hs y (by omega) hym), he]
    · rw [if_neg (by simpa using h12), if_neg h12]
      by_cases h0 : t.kids.length = 0
      · rw [if_pos (by simp [h0]), List.length_eq_zero_iff.1 h0]
        rfl
      · rw [if_neg (by simpa using h0), ckB_eq (by rw [BIG_eq] at hb; simp; omega)]
        have := fill_ok (L := fun m l i => l80_2 s n m t a b c d l t.kids (t.kids.length : Int) i) (ks := t.kids) (B := fun _ x k => (s x).bind fun y => k (Tm.mk y.kind y.i y.j y.n y.kids)) (fin := fun l => some (Tm.mk t.kind t.i t.j t.n l)) (r0 := none) (go := fun _ x => some x.erase)
          (fun m l i => by simp only [l80_2, o80_2, ifB_eq]) (by omega) t.kids [] [] m rfl rfl (by omega) (fun i x k hi _ => by
            have hx := mem_of_get hi
            show (s x).bind _ = k x.erase
            rw [hs x (Tm.size_kid hx) (Tm.marked_kid hm hi (fun h => h12 h.1)), Option.bind_some, Tm.eta])
        rw [len_nil, kidsM_map] at this
        exact this
theorem f80_ok : ∀ (n : Nat) (t : Tm), t.size + 1 < n → t.size ≤ BIG → t.marked = true → f80 n t = some t.erase
  | 0, t, h, _, _ => by omega
  | n + 1, t, h, hb, hm => by
    simp only [f80, o80_0, ifB_eq]
    exact l117_ok n (f80 n) n t 0 0 0 0 (by omega) hb hm fun x hx hxm => f80_ok n x (by omega) (by omega) hxm

/-! ### what erasing keeps -/
theorem Tm.sizes_map_le {f : Tm → Tm} : ∀ {l : List Tm}, (∀ x ∈ l, (f x).size ≤ x.size) → Tm.sizes (l.map f) ≤ Tm.sizes l
  | [], _ => by simp [Tm.sizes]
  | x :: xs, h => by
    have := h x (by simp)
    have := Tm.sizes_map_le (f := f) (l := xs) (fun y hy => h y (by simp [hy]))
    simp only [List.map_cons, Tm.sizes]
    omega
theorem Tm.erase_size : ∀ (n : Nat) (t : Tm), t.size < n → t.marked = true → t.erase.size ≤ t.size
  | 0, t, h, _ => by omega
  | n + 1, t, h, hm => by
    rw [Tm.erase_eq]
    split
    · rename_i h12
      obtain ⟨x, hx, hxm, hxk, he⟩ := Tm.marked_last hm h12
      have := Tm.size_kid hxk
      have := Tm.erase_size n x (by omega) hxm
      rw [he]
      omega
    · rename_i h12
      have h1 : Tm.sizes (t.kids.map Tm.erase) ≤ Tm.sizes t.kids := Tm.sizes_map_le fun x hx => by
        obtain ⟨j, hj⟩ := List.mem_iff_getElem?.1 hx
        exact Tm.erase_size n x (by have := Tm.size_kid hx; omega) (Tm.marked_kid hm hj (fun h => h12 h.1))
      rw [Tm.size_eq t]
      simp only [Tm.size]
      omega
theorem Tm.erase_le {t : Tm} (hm : t.marked = true) : t.erase.size ≤ t.size := Tm.erase_size _ t (Nat.lt_succ_self _) hm

theorem l120_ok (s : Tm → Option Int) (n : Nat) (ks : List Tm) : ∀ (rest pre : List Tm) (acc : Int) (m : Nat), ks = pre ++ rest → rest.length < m → (∀ k ∈ rest, s k = some (k.count : Int)) → 0 ≤ acc → acc + Tm.sizes rest ≤ 2 * BIG → pre.length + rest.length ≤ BIG →
    l83_2 s n m acc ks (ks.length : Int) (pre.length : Int) = some (acc + Tm.counts rest) := by
  intro rest
  induction rest with
  | nil =>
    intro pre acc m hk hm _ _ _ _
    obtain ⟨m, rfl⟩ := fuel hm
    simp only [l83_2, o83_2, decide_eq_true_eq, ifB_eq]
    rw [if_neg (ge_at hk)]
    simp [Tm.counts]
  | cons x rest ih =>
    intro pre acc m hk hm hs h0 hb hl
    obtain ⟨m, rfl⟩ := fuel hm
    simp only [Tm.sizes] at hb
    simp only [Tm.counts]
    have hx := Tm.count_size x
    rw [BIG_eq] at hb hl
    simp only [List.length_cons] at hl hm
    simp only [l83_2, o83_2, decide_eq_true_eq, ifB_eq]
    rw [if_pos (lt_at hk), atI_at hk, hs x (by simp), Option.bind_some, ckI_eq (by omega), ckI_eq (by omega)]
    have := ih (pre ++ [x]) (acc + x.count) m (next_at hk) (by omega) (fun k hk => hs k (by simp [hk])) (by omega) (by rw [BIG_eq]; omega) (by simp; rw [BIG_eq]; omega)
    rw [len_snoc] at this
    rw [this]
    congr 1
    omega
theorem f83_ok : ∀ (n : Nat) (t : Tm), t.size < n → t.size ≤ BIG → f83 n t = some (t.count : Int)
  | 0, t, h, _ => by omega
  | n + 1, t, h, hb => by
    have hl := Tm.len_kids t
    have h1 := fun acc (h0 : 0 ≤ acc) (h2 : acc ≤ 1) => l120_ok (f83 n) n t.kids t.kids [] acc n rfl (by omega) (fun k hk => f83_ok n k (by have := Tm.size_kid hk; omega) (by have := Tm.size_kid hk; omega)) h0 (by rw [Tm.size_eq] at hb; rw [BIG_eq] at hb ⊢; omega) (by simp; omega)
    rw [len_nil] at h1
    simp only [f83, o83_0, c83_1, o83_1, ifB_eq]
    rw [h1 1 (by omega) (by omega), h1 0 (by omega) (by omega), Tm.count_eq]
    by_cases h12 : t.kind = 12 <;> simp [h12]
theorem f22_ok (n : Nat) (t : Tm) (h : t.size + 1 < n) (hb : t.size ≤ BIG) : f22 n t = some (if t.marked = true then t.erase else tzero) := by
  simp only [f22, o22_0, ifB_eq]
  rw [f79_ok n t (by omega) hb, Option.bind_some]
  cases hm : t.marked with
  | false => rfl
  | true => rw [f80_ok n t h hb hm]; rfl
theorem f20_ok (n : Nat) (t : Tm) (h : t.size + 1 < n) (hb : t.size ≤ BIG) : f20 n t = some (if t.marked = true then t.erase else tzero) := by
  simp only [f20, o20_0, ifB_eq]
  rw [f25_ok n t (by omega) hb, Option.bind_some]
  cases hm : t.marked with
  | false => rfl
  | true => rw [f77_ok n t (by omega) hb hm]; rfl
theorem f27_ok (n : Nat) (t : Tm) (h : t.size < n) (hb : t.size ≤ BIG) : f27 n t = some (if t.marked = true then (t.count : Int) else 0) := by
  simp only [f27, o27_0, ifB_eq]
  rw [f79_ok n t h hb, Option.bind_some]
  cases hm : t.marked with
  | false => rfl
  | true => rw [f83_ok n t h hb]; rfl
def Tm.related (a b : Tm) : Bool := a.marked && (b.marked && a.erase.same b.erase)
theorem f85_ok (n : Nat) (a b : Tm) (h : a.size + 1 < n) (hb : a.size ≤ BIG) (h' : b.size + 1 < n) (hb' : b.size ≤ BIG) : f85 n a b = some (a.related b) := by
  simp only [f85, o85_0, ifB_eq]
  rw [f79_ok n a (by omega) hb, f79_ok n b (by omega) hb', Option.bind_some, Option.bind_some]
  unfold Tm.related
  cases hm : a.marked with
  | false => rfl
  | true =>
    cases hm' : b.marked with
    | false => rfl
    | true =>
      have := Tm.erase_le hm
      rw [f80_ok n a h hb hm, f80_ok n b h' hb' hm', Option.bind_some, Option.bind_some, f126_ok n _ _ (by omega) (by omega)]
      rfl
theorem l123_ok (s : Tm → Tm → Option Bool) (n : Nat) (t u : Tm) (hb : t.kids.length ≤ BIG) : ∀ (r r' pre pre' : List Tm) (m : Nat), t.kids = pre ++ r → u.kids = pre' ++ r' → pre.length = pre'.length → r.length = r'.length → r.length < m → (∀ k ∈ r, ∀ k', s k k' = some (k.same k')) →
    l155_2 s n m t u (pre.length : Int) = some (Tm.sames r r') := by
  intro r
  induction r with
  | nil =>
    intro r' pre pre' m hk hk' hp hr hm _
    obtain ⟨m, rfl⟩ := fuel hm
    obtain rfl : r' = [] := List.length_eq_zero_iff.1 hr.symm
    simp only [l155_2, o155_2, decide_eq_true_eq, ifB_eq]
    rw [if_neg (ge_at hk)]
    rfl
  | cons x r ih =>
    intro r' pre pre' m hk hk' hp hr hm hs
    obtain ⟨m, rfl⟩ := fuel hm
    match r', hr with
    | y :: r', hr =>
      simp only [List.length_cons] at hm hr
      have hpl : pre.length ≤ BIG := by rw [hk] at hb; simp at hb; omega
      have := ih r' (pre ++ [x]) (pre' ++ [y]) m (next_at hk) (next_at hk') (by simp [hp]) (by omega) (by omega) (fun k hk => hs k (by simp [hk]))
      rw [len_snoc] at this
      simp only [l155_2, o155_2, decide_eq_true_eq, ifB_eq]
      have h2 := fun (k : Tm → Option Bool) => atI_at hk' k
      rw [← hp] at h2
      rw [if_pos (lt_at hk), atI_at hk, h2, hs x (by simp), Option.bind_some, ckI_eq (idx_ok hpl), this]
      simp only [Tm.sames]
      cases x.same y <;> rfl
theorem f155_ok : ∀ (n : Nat) (a b : Tm), a.size < n → a.size ≤ BIG → f155 n a b = some (a.same b)
  | 0, a, b, h, _ => by omega
  | n + 1, a, b, h, hb => by
    have hl := Tm.len_kids a
    simp only [f155, o155_0, c155_1, o155_1, ifB_eq]
    rw [Tm.same_eq]
    by_cases hlen : a.kids.length = b.kids.length
    · have h1 := l123_ok (f155 n) n a b (by omega) a.kids b.kids [] [] n rfl rfl rfl hlen (by omega) (fun k hk k' => f155_ok n k k' (by have := Tm.size_kid hk; omega) (by have := Tm.size_kid hk; omega))
      rw [len_nil] at h1
      rw [h1]
      have : (a.kids.length : Int) = b.kids.length := by omega
      simp only [this, decide_true, Bool.not_true, Bool.false_eq_true, if_false]
      grind
    · have : ¬ (a.kids.length : Int) = b.kids.length := by omega
      simp only [Tm.sames_length hlen, this, decide_false, Bool.not_false, if_true]
      grind
end Go.Proofs.Ytcaahmielncmpaa
