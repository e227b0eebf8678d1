/-
  Plain facts on what the functions compute.
-/
import Derived.Test.YtcaahmielncmpaaPlP
set_option linter.unusedSimpArgs false
set_option linter.unusedVariables false
namespace Go.Proofs.Ytcaahmielncmpaa
open Go
theorem up_up2 (d c : Int) (hc : 0 ≤ c) (t : Tm) (hr : t.right = true) : ∀ f, Tm.up d (c + f) (Tm.up c f t) = Tm.up (c + d) f t := by
  refine Tm.right_ind (P := fun t => ∀ f, Tm.up d (c + f) (Tm.up c f t) = Tm.up (c + d) f t) ?_ ?_ _ t (Nat.lt_succ_self _) hr
  · intro i _ _ f
    rw [up_var, up_var]
    by_cases h : f ≤ i
    · rw [if_pos h, if_pos h, up_var, if_pos (by omega)]; congr 1; omega
    · rw [if_neg h, if_neg h, up_var, if_neg (by omega)]
  · intro k i j n ks hk _ ih f
    rw [up_node _ _ _ _ _ _ _ hk, up_node _ _ _ _ _ _ _ hk, up_node _ _ _ _ _ _ _ hk, kmap_kmap, kmap_congr0]
    intro a x ha
    have := (ih x (mem_of_get ha)).2 (f + tbinds k a)
    rwa [show c + (f + tbinds k a) = c + f + tbinds k a by omega] at this
/-- Putting under a lift. -/
theorem sb_up_comm (v : Tm) (h1 : v.right = true) (d : Int) (hd : 0 ≤ d) (t : Tm) (hr : t.right = true) : ∀ (c : Int) (p : Bool), 0 ≤ c → Tm.sb (one v) (c + d) p (Tm.up d c t) = Tm.up d c (Tm.sb (one v) c p t) := by
  refine Tm.right_ind (P := fun t => ∀ (c : Int) (p : Bool), 0 ≤ c → Tm.sb (one v) (c + d) p (Tm.up d c t) = Tm.up d c (Tm.sb (one v) c p t)) ?_ ?_ _ t (Nat.lt_succ_self _) hr
  · intro i h0 _ c p hc
    rw [up_var, sb_var]
    by_cases h : c ≤ i
    · rw [if_pos h, if_pos h, sb_var, if_pos (by omega)]
      rw [show i + d - (c + d) = i - c by omega]
      match hb : (i - c).toNat with
      | 0 =>
        have : ∀ x : Tm, x.right = true → Tm.up (c + d) 0 x = Tm.up d c (Tm.up c 0 x) := fun x hx => by
          have := up_up2 d c hc x hx 0
          rw [Int.add_zero] at this
          exact this.symm
        cases p with
        | true => exact this v.strip (right_p (Tm.right_strip v h1))
        | false => exact this v h1
      | b + 1 =>
        show Tm.up (c + d) 0 (var b) = Tm.up d c (Tm.up c 0 (var b))
        rw [up_var, up_var, if_pos (by omega), if_pos (by omega), up_var, if_pos (by omega)]
        congr 1; omega
    · rw [if_neg h, if_neg h, sb_var, if_neg (by omega), up_var, if_neg h]
  · intro k i j n ks hk _ ih c p hc
    rw [up_node _ _ _ _ _ _ _ hk, sb_node _ _ _ _ _ _ _ _ hk, sb_node _ _ _ _ _ _ _ _ hk, up_node _ _ _ _ _ _ _ hk, kmap_kmap, kmap_kmap, kmap_congr0]
    intro a x ha
    have hb := tbinds_range k (a : Int)
    have := (ih x (mem_of_get ha)).2 (c + tbinds k a) (mode p k a) (by omega)
    rwa [show c + tbinds k a + d = c + d + tbinds k a by omega] at this
/-- Two terms put, one after the other. -/
def two (u v : Tm) : Bool → Nat → Tm := fun p a => match a with
  | 0 => Tm.sb (one v) 0 p (one u p 0)
  | a + 1 => one v p a
theorem sb_sb (u v : Tm) (hu : u.right = true) (hv : v.right = true) (t : Tm) (hr : t.right = true) : ∀ (d : Int) (p : Bool), 0 ≤ d → Tm.sb (one v) d p (Tm.sb (one u) d p t) = Tm.sb (two u v) d p t := by
  refine Tm.right_ind (P := fun t => ∀ (d : Int) (p : Bool), 0 ≤ d → Tm.sb (one v) d p (Tm.sb (one u) d p t) = Tm.sb (two u v) d p t) ?_ ?_ _ t (Nat.lt_succ_self _) hr
  · intro i h0 _ d p hd
    rw [sb_var, sb_var]
    by_cases h : d ≤ i
    · rw [if_pos h, if_pos h]
      match hb : (i - d).toNat with
      | 0 =>
        have hx : (one u p 0).right = true := by
          cases p with
          | true => exact right_p (Tm.right_strip u hu)
          | false => exact hu
        have := sb_up_comm v hv d hd (one u p 0) hx 0 p (by omega)
        rw [Int.zero_add] at this
        exact this
      | b + 1 =>
        show Tm.sb (one v) d p (Tm.up d 0 (var b)) = Tm.up d 0 (one v p b)
        rw [up_var, if_pos (by omega), sb_var, if_pos (by omega), show ((b : Int) + d - d).toNat = b by omega]
    · rw [if_neg h, if_neg h, sb_var, if_neg h]
  · intro k i j n ks hk _ ih d p hd
    rw [sb_node _ _ _ _ _ _ _ _ hk, sb_node _ _ _ _ _ _ _ _ hk, sb_node _ _ _ _ _ _ _ _ hk, kmap_kmap, kmap_congr0]
    intro a x ha
    have hb := tbinds_range k (a : Int)
    exact (ih x (mem_of_get ha)).2 _ _ (by omega)
theorem sb_kind (v : Tm) (t : Tm) (h : t.kind ≠ 2) (d : Int) (p : Bool) : (Tm.sb (one v) d p t).kind = t.kind := by
  rw [Tm.sb_eq, if_neg (fun q => h q.1)]
  rfl
theorem up_zero' (t : Tm) (hr : t.right = true) : ∀ f, Tm.up 0 f t = t := by
  refine Tm.right_ind (P := fun t => ∀ f, Tm.up 0 f t = t) ?_ ?_ _ t (Nat.lt_succ_self _) hr
  · intro i _ _ f
    rw [up_var, Int.add_zero]; split <;> rfl
  · intro k i j n ks hk _ ih f
    rw [up_node _ _ _ _ _ _ _ hk]
    have : kmap (fun a x => Tm.up 0 (f + tbinds k a) x) 0 ks = kmap (fun _ x => x) 0 ks := kmap_congr0 (fun a x ha => (ih x (mem_of_get ha)).2 _)
    rw [this, kmap_id]
/-- The list that stands for putting `u`, then `v`. -/
def listed (w v : Tm) : Bool → Nat → Tm := fun p a => match a with
  | 0 => if p = true then w.strip else w
  | a + 1 => one v p a
theorem listed_at (w v : Tm) (p : Bool) (a : Nat) (x : Tm) (h : [w, v][a]? = some x) : listed w v p a = if p = true then x.strip else x := by
  match a with
  | 0 => simp at h; subst h; rfl
  | 1 => simp at h; subst h; rfl
  | a + 2 => simp at h
theorem listed_var (w v : Tm) (p : Bool) (a : Nat) (h : 2 ≤ a) : listed w v p a = var ((a : Int) - 2) := by
  obtain ⟨b, rfl⟩ : ∃ b, a = b + 2 := ⟨a - 2, by omega⟩
  show var b = _
  congr 1
  omega
/-- The mode in which `v` is put for `u`'s variables. -/
def put (t v : Tm) : Tm := Tm.sb (one v) 0 (decide (13 ≤ t.kind)) t
theorem strip_put_true (u v : Tm) (hu : u.right = true) (hv : v.right = true) (hok : u.kind = 1 ∨ u.kind = 2 ∨ u.plain = true ∨ v.marked = true) (hroom : v.strip.room (2 * u.size)) (hvf : 0 ≤ v.free) : (put u v).strip = Tm.sb (one v) 0 true u.strip := by
  have hd := Tm.deep_size u
  unfold put
  by_cases hm : u.marked = true ∧ v.marked = true
  · have hk := marked_kind hm.1
    rw [decide_eq_false (by omega), strip_put v u hm.2 hm.1 0 true]
    have hpv := Tm.strip_plain v hm.2
    exact sb_ptrue (fun a => by
      cases a with
      | zero => simp [one, Tm.plain_strip hpv]
      | succ a => rfl) _ (right_p (Tm.right_strip u hu)) 0
  · by_cases hlow : u.kind = 1 ∨ u.kind = 2
    · rw [decide_eq_false (by omega), Tm.low_strip hlow, Tm.sb_eq, Tm.sb_eq]
      have hn := node_nil (Tm.right_node hu) hlow
      by_cases h2 : u.kind = 2 ∧ 0 ≤ u.i
      · rw [if_pos h2, if_pos h2]
        match hb : (u.i - 0).toNat with
        | 0 =>
          show (Tm.up 0 0 v).strip = Tm.up 0 0 v.strip
          exact Tm.strip_up' 0 v hv 0
        | b + 1 =>
          show (Tm.up 0 0 (var b)).strip = Tm.up 0 0 (var b)
          obtain ⟨c, hc⟩ := up_var0 0 b
          rw [hc, var_strip]
      · rw [if_neg h2, if_neg h2, hn]
        exact Tm.low_strip hlow
    · have hpl : u.plain = true := by
        have hu' := hu
        unfold Tm.right at hu'
        rcases Bool.or_eq_true_iff.1 hu' with h | h
        · have hkm := marked_kind h
          rcases hok with h' | h' | h' | h'
          · omega
          · omega
          · exact h'
          · exact absurd ⟨h, h'⟩ hm
        · exact h
      have := plain_kind' hpl
      rw [decide_eq_true (by omega), Tm.plain_strip hpl]
      exact Tm.plain_strip (Tm.sb_plain v (2 * u.size) (Tm.right_strip v hv) hroom u hu 0 hpl (by omega) (by omega))
theorem two_eq (t u v : Tm) (ht : t.right = true) (hu : u.right = true) (hv : v.right = true) (h1 : t.kind = 1 ∨ t.kind = 2 ∨ t.plain = true ∨ u.marked = true) (h2 : t.kind = 1 ∨ t.kind = 2 ∨ t.plain = true ∨ v.marked = true) (h3 : u.kind = 1 ∨ u.kind = 2 ∨ u.plain = true ∨ v.marked = true) (hroom : v.strip.room (2 * u.size)) (hvf : 0 ≤ v.free) (hur : (put u v).right = true) :
    put (put t u) v = Tm.sb (listed (put u v) v) 0 (decide (13 ≤ t.kind)) t := by
  have hst := strip_put_true u v hu hv h3 hroom hvf
  by_cases hlow : t.kind = 1 ∨ t.kind = 2
  · rcases hlow with h | h
    · have hn := node_nil (Tm.right_node ht) (.inl h)
      have e : ∀ σ d p, Tm.sb σ d p t = t := fun σ d p => by
        rw [Tm.sb_eq, if_neg (by omega), hn]
        have := Tm.eta t
        rw [hn] at this
        exact this
      unfold put
      rw [e, e, e]
    · obtain ⟨v1, v2, v3, v4, v5⟩ := Tm.right_var ht h
      have et : t = var t.i := by
        have := Tm.eta t
        rw [h, v3, v4, v5] at this
        exact this.symm
      rw [decide_eq_false (by omega)]
      have key : ∀ σ, Tm.sb σ 0 false t = Tm.up 0 0 (σ false t.i.toNat) := fun σ => by rw [Tm.sb_eq, if_pos ⟨h, v1⟩, Int.sub_zero]
      have e0 : put t u = Tm.up 0 0 (one u false t.i.toNat) := by
        unfold put
        rw [decide_eq_false (by omega), key]
      have e1 : Tm.sb (listed (put u v) v) 0 false t = Tm.up 0 0 (listed (put u v) v false t.i.toNat) := key _
      rw [e0, e1]
      match hb : t.i.toNat with
      | 0 =>
        show put (Tm.up 0 0 u) v = Tm.up 0 0 (put u v)
        rw [up_zero' u hu, up_zero' _ hur]
      | b + 1 =>
        show put (Tm.up 0 0 (var b)) v = Tm.up 0 0 (one v false b)
        rw [up_var, if_pos (by omega), Int.add_zero]
        unfold put
        rw [decide_eq_false (by simp [var, Tm.kind]), sb_var, if_pos (by omega)]
        simp
  · have hkind : (put t u).kind = t.kind := sb_kind u t (by omega) _ _
    unfold put at hkind ⊢
    rw [hkind, sb_sb u v hu hv t ht 0 _ (by omega)]
    by_cases h13 : 13 ≤ t.kind
    · rw [decide_eq_true h13]
      refine sb_ptrue (fun a => ?_) t ht 0
      cases a with
      | zero => exact hst.symm
      | succ a => rfl
    · have hm : t.marked = true := by
        have ht' := ht
        unfold Tm.right at ht'
        rcases Bool.or_eq_true_iff.1 ht' with h | h
        · exact h
        · have := plain_kind' h; omega
      have hmu : u.marked = true := by
        rcases h1 with h | h | h | h
        · omega
        · omega
        · have := plain_kind' h; omega
        · exact h
      have hku := marked_kind hmu
      have e : two u v = listed (put u v) v := by
        funext p a
        cases a with
        | zero =>
          cases p with
          | true => exact hst.symm
          | false =>
            show Tm.sb (one v) 0 false u = put u v
            unfold put
            rw [decide_eq_false (by omega)]
        | succ a => rfl
      rw [e]
      rfl
end Go.Proofs.Ytcaahmielncmpaa
