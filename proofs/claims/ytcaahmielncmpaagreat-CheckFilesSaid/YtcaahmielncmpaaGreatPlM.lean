/-
  Plain facts on what the functions compute.
-/
import Derived.Test.YtcaahmielncmpaaGreatPlL
set_option linter.unusedSimpArgs false
set_option linter.unusedVariables false
namespace Go.Proofs.YtcaahmielncmpaaGreat
open Go
/-! ## Putting, where nothing can fail -/
mutual
def Tm.sb (σ : Bool → Nat → Tm) : Int → Bool → Tm → Tm
  | d, p, .mk kd i j n ks => if kd = 2 ∧ d ≤ i then Tm.up d 0 (σ p (i - d).toNat) else .mk kd i j n (Tm.sbs σ kd d p 0 ks)
def Tm.sbs (σ : Bool → Nat → Tm) (kd d : Int) (p : Bool) : Nat → List Tm → List Tm
  | _, [] => []
  | i, x :: xs => Tm.sb σ (d + tbinds kd i) (mode p kd i) x :: Tm.sbs σ kd d p (i + 1) xs
end
theorem Tm.sb_eq (σ : Bool → Nat → Tm) (d : Int) (p : Bool) (t : Tm) : Tm.sb σ d p t = if t.kind = 2 ∧ d ≤ t.i then Tm.up d 0 (σ p (t.i - d).toNat) else .mk t.kind t.i t.j t.n (Tm.sbs σ t.kind d p 0 t.kids) := by cases t; rfl
theorem kidsM_sbs {go : Nat → Tm → Option Tm} {σ : Bool → Nat → Tm} {kd d : Int} {p : Bool} : ∀ {i : Nat} {l : List Tm}, (∀ (j : Nat) x, l[j]? = some x → go (i + j) x = some (Tm.sb σ (d + tbinds kd (i + j : Nat)) (mode p kd (i + j : Nat)) x)) → kidsM go i l = some (Tm.sbs σ kd d p i l)
  | _, [], _ => rfl
  | i, x :: xs, h => by
    have h0 := h 0 x (by simp)
    rw [Nat.add_zero] at h0
    have := kidsM_sbs (go := go) (σ := σ) (kd := kd) (d := d) (p := p) (i := i + 1) (l := xs) (fun j y hj => by have := h (j + 1) y (by simpa using hj); rwa [show i + (j + 1) = i + 1 + j by omega] at this)
    simp only [kidsM, h0, this, Tm.sbs]
theorem Tm.subO_sb (vs ps : List Tm) (one : Bool) (σ : Bool → Nat → Tm) (L D : Int) (hσ : ∀ (p : Bool) (a d : Int), 0 ≤ a → a < L → 0 ≤ d → d ≤ D → Tm.pick vs ps one a d p = some (Tm.up d 0 (σ p a.toNat))) :
    ∀ (n : Nat) (t : Tm) (d : Int) (p : Bool), t.size < n → t.right = true → 0 ≤ d → t.free ≤ d + L → d + 2 * t.deep ≤ D → Tm.subO vs ps one d p t = some (Tm.sb σ d p t)
  | 0, t, d, p, h, _, _, _, _ => by omega
  | n + 1, t, d, p, h, hr, hd0, hf, hD => by
    rw [Tm.subO_eq, Tm.sb_eq]
    rw [Tm.free_eq] at hf
    by_cases hk : t.kind = 2 ∧ d ≤ t.i
    · rw [if_pos hk.1] at hf
      rw [if_pos hk, if_pos hk]
      have : 0 ≤ t.deep := Nat.zero_le _
      exact hσ p _ d (by omega) (by omega) hd0 (by omega)
    · rw [if_neg hk, if_neg hk, kidsM_sbs (σ := σ) (kd := t.kind) (d := d) (p := p) (fun j x hj => by
        have hx := mem_of_get hj
        have hb := tbinds_range t.kind ((0 + j : Nat) : Int)
        have hk2 : t.kind ≠ 2 := fun h => by rw [(Tm.right_var hr h).2.2.2.2] at hx; cases hx
        rw [if_neg hk2] at hf
        have := frees_get (k := t.kind) 0 t.kids j x hj
        have hdk := Tm.deep_kid hx
        exact Tm.subO_sb vs ps one σ L D hσ n x _ _ (by have := Tm.size_kid hx; omega) (Tm.right_kid hr hx) (by omega) (by omega) (by omega))]
/-! ### kids, one by one -/
def kmap (g : Nat → Tm → Tm) : Nat → List Tm → List Tm
  | _, [] => []
  | i, x :: xs => g i x :: kmap g (i + 1) xs
theorem kmap_id : ∀ (i : Nat) (l : List Tm), kmap (fun _ x => x) i l = l
  | _, [] => rfl
  | i, x :: xs => by simp only [kmap, kmap_id (i + 1) xs]
theorem kmap_length (g : Nat → Tm → Tm) : ∀ (i : Nat) (l : List Tm), (kmap g i l).length = l.length
  | _, [] => rfl
  | i, x :: xs => by simp [kmap, kmap_length g (i + 1) xs]
theorem sbs_kmap (σ : Bool → Nat → Tm) (kd d : Int) (p : Bool) : ∀ (i : Nat) (l : List Tm), Tm.sbs σ kd d p i l = kmap (fun a x => Tm.sb σ (d + tbinds kd a) (mode p kd a) x) i l
  | _, [] => rfl
  | i, x :: xs => by simp only [Tm.sbs, kmap, sbs_kmap σ kd d p (i + 1) xs]
theorem frees_kmap {g : Nat → Tm → Tm} {k B : Int} (hB : 0 ≤ B) : ∀ {i : Nat} {l : List Tm}, (∀ (j : Nat) x, l[j]? = some x → (g (i + j) x).free - tbinds k (i + j : Nat) ≤ B) → Tm.frees k i (kmap g i l) ≤ B
  | _, [], _ => hB
  | i, x :: xs, h => by
    have h0 := h 0 x (by simp)
    rw [Nat.add_zero] at h0
    have := frees_kmap (g := g) (k := k) hB (i := i + 1) (l := xs) (fun j y hj => by have := h (j + 1) y (by simpa using hj); rwa [show i + (j + 1) = i + 1 + j by omega] at this)
    simp only [kmap, Tm.frees]
    omega
def var (i : Int) : Tm := .mk 2 i 0 0 []
theorem sb_var (σ : Bool → Nat → Tm) (d i : Int) (p : Bool) : Tm.sb σ d p (var i) = if d ≤ i then Tm.up d 0 (σ p (i - d).toNat) else var i := by
  by_cases h : d ≤ i <;> simp [var, Tm.sb, h, Tm.sbs]
theorem sb_node (σ : Bool → Nat → Tm) (d : Int) (p : Bool) (k i j n : Int) (ks : List Tm) (h : k ≠ 2) : Tm.sb σ d p (.mk k i j n ks) = .mk k i j n (kmap (fun a x => Tm.sb σ (d + tbinds k a) (mode p k a) x) 0 ks) := by
  simp only [Tm.sb]
  rw [if_neg (fun q => h q.1), sbs_kmap]
theorem up_var (k f i : Int) : Tm.up k f (var i) = if f ≤ i then var (i + k) else var i := by
  by_cases h : f ≤ i <;> simp [var, Tm.up, h]
theorem Tm.right_ind {P : Tm → Prop} (hv : ∀ i : Int, 0 ≤ i → i ≤ 2147483647 → P (var i)) (hn : ∀ (k i j n : Int) (ks : List Tm), k ≠ 2 → (Tm.mk k i j n ks).right = true → (∀ x ∈ ks, x.right = true ∧ P x) → P (.mk k i j n ks)) : ∀ (n : Nat) (t : Tm), t.size < n → t.right = true → P t
  | 0, t, h, _ => by omega
  | n + 1, t, h, hr => by
    by_cases hk : t.kind = 2
    · obtain ⟨v1, v2, v3, v4, v5⟩ := Tm.right_var hr hk
      have := hv t.i v1 v2
      unfold var at this
      have e := Tm.eta t
      rw [hk, v3, v4, v5] at e
      rwa [e] at this
    · have ih : ∀ x ∈ t.kids, x.right = true ∧ P x := fun x hx => ⟨Tm.right_kid hr hx, Tm.right_ind hv hn n x (by have := Tm.size_kid hx; omega) (Tm.right_kid hr hx)⟩
      have e := Tm.eta t
      have := hn t.kind t.i t.j t.n t.kids hk (by rw [e]; exact hr) ih
      rwa [e] at this
theorem frees_at {k : Int} {l : List Tm} {j : Nat} {x : Tm} (h : l[j]? = some x) : x.free - tbinds k (j : Nat) ≤ Tm.frees k 0 l := by
  have := frees_get (k := k) 0 l j x h
  rwa [Nat.zero_add] at this
theorem free_node {k i j n : Int} {ks : List Tm} (h : k ≠ 2) : (Tm.mk k i j n ks).free = Tm.frees k 0 ks := by
  rw [Tm.free_eq]
  exact if_neg h
theorem free_var (i : Int) : (var i).free = i + 1 := by simp [var, Tm.free]
/-- What putting one term stands for. -/
def one (v : Tm) : Bool → Nat → Tm := fun p a => match a with
  | 0 => if p = true then v.strip else v
  | a + 1 => var a
theorem pick_one (v : Tm) (hr : v.right = true) (D : Int) (hroom : v.free + 2 * v.size + D ≤ 2147483648) (p : Bool) (a d : Int) (ha : 0 ≤ a) (hd0 : 0 ≤ d) (hd : d ≤ D) : Tm.pick [v] ([v].map Tm.strip) true a d p = some (Tm.up d 0 (one v p a.toNat)) := by
  unfold Tm.pick
  by_cases h1 : (1 : Int) ≤ a
  · rw [if_pos (by simpa using h1), if_pos rfl]
    obtain ⟨b, hb⟩ : ∃ b : Nat, a = b + 1 := ⟨(a - 1).toNat, by omega⟩
    subst hb
    have : ((b : Int) + 1).toNat = b + 1 := by omega
    rw [this]
    show _ = some (Tm.up d 0 (var b))
    rw [up_var, if_pos (by omega)]
    simp [var]
  · rw [if_neg (by simpa using h1)]
    have : a = 0 := by omega
    subst this
    have hz := Tm.strip_size' v hr
    have hf := Tm.strip_free' v hr
    have hp := Tm.right_strip v hr
    have hpr : v.strip.right = true := by unfold Tm.right; rw [hp, Bool.or_true]
    have h1 := Tm.deep_size v
    have h2 := Tm.deep_size v.strip
    cases p with
    | true => exact Tm.lift_up d hd0 _ v.strip 0 (Nat.lt_succ_self _) hpr (by unfold Tm.room; omega)
    | false => exact Tm.lift_up d hd0 _ v 0 (Nat.lt_succ_self _) hr (by unfold Tm.room; omega)
theorem Tm.putZ_sb (t v : Tm) (ht : t.right = true) (hok : okv t v = true) (hroom : v.free + 2 * v.size + 2 * t.size ≤ 2147483648) : t.putZ v = Tm.sb (one v) 0 (decide (13 ≤ t.kind)) t := by
  have hr : v.right = true := by unfold okv at hok; simp only [Bool.and_eq_true] at hok; exact hok.1
  unfold Tm.putZ Tm.suball
  rw [if_pos ht, if_pos (by simpa using hok)]
  have hd := Tm.deep_size t
  rw [Tm.subO_sb [v] ([v].map Tm.strip) true (one v) t.free (2 * t.size) (fun p a d ha _ hd0 hdD => pick_one v hr (2 * t.size) (by omega) p a d ha hd0 hdD) _ t 0 _ (Nat.lt_succ_self _) ht (by omega) (by omega) (by omega)]
  rfl
end Go.Proofs.YtcaahmielncmpaaGreat
