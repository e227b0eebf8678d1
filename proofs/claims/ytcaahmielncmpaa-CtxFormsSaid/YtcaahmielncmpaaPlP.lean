/-
  Plain facts on what the functions compute.
-/
import Derived.Test.YtcaahmielncmpaaPlO
set_option linter.unusedSimpArgs false
set_option linter.unusedVariables false
namespace Go.Proofs.Ytcaahmielncmpaa
open Go
theorem f97_ok2 (n : Nat) (t : Tm) (vs : List Tm) (one : Bool) (M : Nat) (hn : ∀ x ∈ vs, x.size ≤ M) (hb : M ≤ BIG) (hvb : vs.length ≤ BIG) (hvn : vs.length < n) (hs : t.size + M + 1 < n) (hts : t.size ≤ 1000000) (hr : t.right = true) : f97 n t vs one = some (t.suball vs one) := by
  simp only [f97, o97_0, ifB_eq]
  have := l138_ok n t vs one (fun x hx => by have := hn x hx; omega) (fun x hx => by have := hn x hx; omega) hvb (some (out2 (Tm.subO vs (vs.map Tm.strip) one 0 (decide (13 ≤ t.kind)) t))) (fun hall => by
    have hsm : Small M vs := fun x hx => ⟨by have := List.all_eq_true.1 hall x hx; unfold okv at this; simp only [Bool.and_eq_true] at this; exact this.1, hn x hx⟩
    rw [f134_ok vs _ one M hsm (strip_small hsm) (by simp) hvb hb n t 0 _ (by omega) (by rw [BIG_eq]; omega) hr (by omega) (by omega)]
    rfl) vs [] n rfl hvn rfl
  rw [len_nil] at this
  refine Eq.trans this ?_
  unfold Tm.suball
  cases vs.all (okv t) <;> rfl
theorem f36_ok2 (n : Nat) (t v : Tm) (hs : t.size + v.size + 1 < n) (hn : 1 < n) (hts : t.size ≤ 1000000) (hb : v.size ≤ BIG) : f36 n t v = some (t.putZ v) := by
  simp only [f36, o36_0, ifB_eq]
  rw [f87_ok n t (by omega) (by rw [BIG_eq]; omega), Option.bind_some]
  unfold Tm.putZ
  cases hr : t.right with
  | false => rfl
  | true =>
    rw [if_neg (by simp), Tm.eta, f97_ok2 n t [v] true v.size (by simp) hb (by rw [BIG_eq]; simp) (by simpa using hn) hs hts hr, if_pos rfl, Option.bind_some]
    unfold Tm.suball
    split
    · cases Tm.subO [v] ([v].map Tm.strip) true 0 (decide (13 ≤ t.kind)) t <;> rfl
    · rfl
def vars (j : Nat) : List Tm := (List.range j).map fun (i : Nat) => var i
theorem vars_succ (j : Nat) : vars (j + 1) = vars j ++ [var j] := by simp [vars, List.range_succ]
theorem vars_length (j : Nat) : (vars j).length = j := by simp [vars]
theorem vars_get (c j : Nat) (h : j < c) : (vars c)[j]? = some (var j) := by simp [vars, h]
theorem vars_mem {c : Nat} {x : Tm} (h : x ∈ vars c) : ∃ j : Nat, j < c ∧ x = var j := by
  simp [vars] at h
  obtain ⟨a, ha, rfl⟩ := h
  exact ⟨a, ha, rfl⟩
theorem var_size (i : Int) : (var i).size = 1 := by simp [var, Tm.size, Tm.sizes]
theorem var_okv (t : Tm) (j : Nat) (h : j ≤ 1000) : okv t (var j) = true := by
  have := (var_sort j (by omega) (by omega)).2
  unfold okv
  rw [right_m this]
  simp [var, Tm.kind]
theorem lift_vars (ps : List Tm) (c a : Nat) (d : Int) (hd : 0 ≤ d) (hd2 : d ≤ 1000000) (ha : a < c) (hc : c ≤ 1000) (x : Tm) (hx : x = var a) : Tm.lift d 0 x = some (Tm.up d 0 (var a)) := by
  subst hx
  have h1 := right_m (var_sort a (by omega) (by omega)).2
  refine Tm.lift_up d hd _ _ 0 (Nat.lt_succ_self _) h1 ?_
  have := Tm.deep_size (var a)
  unfold Tm.room
  rw [free_var]
  have := var_size a
  omega
/-- A list of terms, then the variables in their order. -/
theorem pick_list (xs : List Tm) (c : Nat) (hc : c ≤ 1000) (D : Int) (hD : D ≤ 1000000) (hr : ∀ x ∈ xs, x.right = true ∧ x.free + 2 * x.size + D ≤ 2147483648) (σ : Bool → Nat → Tm)
    (h1 : ∀ (p : Bool) (a : Nat) x, xs[a]? = some x → σ p a = if p = true then x.strip else x) (h2 : ∀ p (a : Nat), xs.length ≤ a → σ p a = var ((a : Int) - xs.length)) (p : Bool) (a d : Int) (ha : 0 ≤ a) (hac : a < xs.length + c) (hd0 : 0 ≤ d) (hd : d ≤ D) :
    Tm.pick (xs ++ vars c) ((xs ++ vars c).map Tm.strip) false a d p = some (Tm.up d 0 (σ p a.toNat)) := by
  unfold Tm.pick
  rw [if_neg (by simp [vars_length]; omega)]
  by_cases h : a.toNat < xs.length
  · have hg : xs[a.toNat]? = some xs[a.toNat] := List.getElem?_eq_getElem h
    have hx := hr _ (List.getElem_mem h)
    have e := h1 p _ _ hg
    have hfull : (xs ++ vars c)[a.toNat]? = some xs[a.toNat] := by rw [List.getElem?_append_left h, hg]
    generalize xs[a.toNat] = x at *
    have hz := Tm.strip_size' x hx.1
    have hf := Tm.strip_free' x hx.1
    have hpr := right_p (Tm.right_strip x hx.1)
    have h3 := Tm.deep_size x
    have h4 := Tm.deep_size x.strip
    rw [e]
    cases p with
    | true =>
      rw [if_pos rfl, List.getElem?_map, hfull, if_pos rfl]
      exact Tm.lift_up d hd0 _ x.strip 0 (Nat.lt_succ_self _) hpr (by unfold Tm.room; omega)
    | false =>
      rw [if_neg (by simp), hfull, if_neg (by simp)]
      exact Tm.lift_up d hd0 _ x 0 (Nat.lt_succ_self _) hx.1 (by unfold Tm.room; omega)
  · obtain ⟨b, hb⟩ : ∃ b, a.toNat = xs.length + b := ⟨a.toNat - xs.length, by omega⟩
    have hfull : (xs ++ vars c)[a.toNat]? = some (var b) := by rw [hb, List.getElem?_append_right (by omega), Nat.add_sub_cancel_left, vars_get c b (by omega)]
    have e := h2 p a.toNat (by omega)
    rw [show ((a.toNat : Nat) : Int) - xs.length = (b : Nat) by omega] at e
    rw [e]
    cases p with
    | true =>
      rw [if_pos rfl, List.getElem?_map, hfull]
      exact lift_vars [] c b d hd0 (by omega) (by omega) hc _ (var_strip b)
    | false =>
      rw [if_neg (by simp), hfull]
      exact lift_vars [] c b d hd0 (by omega) (by omega) hc _ rfl
theorem allZ_list (t : Tm) (xs : List Tm) (c : Nat) (hc : c ≤ 1000) (ht : t.right = true) (hts : t.size ≤ 1000) (hfree : t.free ≤ c) (hr : ∀ x ∈ xs, okv t x = true ∧ x.free + 2 * x.size + 2000 ≤ 2147483648) (σ : Bool → Nat → Tm)
    (h1 : ∀ (p : Bool) (a : Nat) x, xs[a]? = some x → σ p a = if p = true then x.strip else x) (h2 : ∀ p (a : Nat), xs.length ≤ a → σ p a = var ((a : Int) - xs.length)) :
    t.allZ (xs ++ vars c) = (Tm.sb σ 0 (decide (13 ≤ t.kind)) t, true) := by
  have hok : (xs ++ vars c).all (okv t) = true := by
    rw [List.all_eq_true]
    intro x hx
    rcases List.mem_append.1 hx with hx | hx
    · exact (hr x hx).1
    · obtain ⟨j, hj, rfl⟩ := vars_mem hx
      exact var_okv t j (by omega)
  have hd := Tm.deep_size t
  unfold Tm.allZ Tm.suball
  rw [if_pos ht, if_pos hok, Tm.subO_sb _ _ false σ c 2000 (fun p a d ha hac hd0 hd => pick_list xs c hc 2000 (by omega) (fun x hx => ⟨by have := (hr x hx).1; unfold okv at this; simp only [Bool.and_eq_true] at this; exact this.1, (hr x hx).2⟩) σ h1 h2 p a d ha (by omega) hd0 hd) _ t 0 _ (Nat.lt_succ_self _) ht (by omega) (by omega) (by omega)]
  rfl
theorem one_at (v : Tm) (p : Bool) (a : Nat) (x : Tm) (h : [v][a]? = some x) : one v p a = if p = true then x.strip else x := by
  cases a with
  | zero => simp at h; subst h; rfl
  | succ a => simp at h
theorem one_var (v : Tm) (p : Bool) (a : Nat) (h : 1 ≤ a) : one v p a = var ((a : Int) - 1) := by
  obtain ⟨b, rfl⟩ : ∃ b, a = b + 1 := ⟨a - 1, by omega⟩
  show var b = _
  congr 1
  omega
end Go.Proofs.Ytcaahmielncmpaa
