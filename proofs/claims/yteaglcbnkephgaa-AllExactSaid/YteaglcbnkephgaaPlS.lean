/-
  Plain facts on what the functions compute.
-/
import Derived.Test.YteaglcbnkephgaaPlR
set_option linter.unusedSimpArgs false
set_option linter.unusedVariables false
namespace Go.Proofs.Yteaglcbnkephgaa
open Go
def md (kd i : Int) : Bool := decide (12 < kd) || (decide (kd = 12) && decide (i = 2))
theorem f146_eq (t : Tm) (i : Int) : f146 t i = some (md t.kind i) := by
  unfold f146 o146_0 md
  grind
theorem f145_ok (n : Nat) (x : Tm) (d : Int) (p : Bool) (hx : x.right = true) (hs : x.size + 5 < n) (hb : x.size ≤ BIG) (hd : 0 ≤ d) (hd2 : d ≤ 1000000000) : f145 n x d p = some (out2 (Tm.lift d 0 (if p = true then x.strip else x))) := by
  have hBig := BIG_eq
  have hz := Tm.strip_size' x hx
  cases p with
  | true =>
    simp only [f145, o145_0, c145_1, o145_1]
    have e : x.stripZ = x.strip := by unfold Tm.stripZ; rw [if_pos hx]
    rw [if_pos trivial, f78_ok n x hs hb, Option.bind_some, e, f131_ok d hd (by omega) n _ 0 (by omega) (by omega) (right_p (Tm.right_strip x hx)) (by omega) (by omega), if_pos trivial]
    rfl
  | false =>
    simp only [f145, o145_0, c145_1, o145_1]
    rw [if_neg (by simp), f131_ok d hd (by omega) n x 0 (by omega) hb hx (by omega) (by omega), if_neg (by simp)]
    rfl
theorem f139_step (vs : List Tm) (M : Nat) (hv : Small M vs) (hvb : vs.length ≤ BIG) (hMB : M ≤ BIG) (n : Nat) (t : Tm) (d : Int) (p p' : Bool) (h : t.size + M + 5 < n + 1) (hb : t.size ≤ BIG) (hr : t.right = true) (hd0 : 0 ≤ d) (hd : d + 2 * t.size ≤ 1000000000) (hf : t.free ≤ d + vs.length)
    (hpp : t.kind = 2 → p = p') (ih : ∀ (i : Nat) x, t.kids[i]? = some x → f139 n x vs (d + tbinds t.kind i) (if p = true then true else md t.kind i) = some (out2 (Tm.subO vs (vs.map Tm.strip) false (d + tbinds t.kind i) (mode p' t.kind i) x))) :
    f139 (n + 1) t vs d p = some (out2 (Tm.subO vs (vs.map Tm.strip) false d p' t)) := by
  have hBig := BIG_eq
  have hl := Tm.len_kids t
  have hz : c139_1 (f139 n) n (l139_2 (f139 n) n n) vs d p t 0 0 0 0 false = some (out2 (match kidsM (fun i x => Tm.subO vs (vs.map Tm.strip) false (d + tbinds t.kind i) (mode p' t.kind i) x) 0 t.kids with
      | some l => some (.mk t.kind t.i t.j t.n l)
      | none => none)) := by
    simp only [c139_1, o139_1]
    rw [if_neg (by simp)]
    have := app_ok (L := fun m l i => l139_2 (f139 n) n m vs d p t 0 0 0 0 t.kind t.i t.j t.n l i) (ks := t.kids)
      (B := fun i x c => (f60 t.kind i).bind fun b => ckI (d + b) <| if p then (f139 n x vs (d + b) true).bind fun r => if (!r.2) then some (Tm.mk 0 0 0 0 [], false) else c (Tm.mk r.1.kind r.1.i r.1.j r.1.n r.1.kids)
        else (f146 t i).bind fun q => (f139 n x vs (d + b) q).bind fun r => if (!r.2) then some (Tm.mk 0 0 0 0 [], false) else c (Tm.mk r.1.kind r.1.i r.1.j r.1.n r.1.kids))
      (fin := fun l => some (Tm.mk t.kind t.i t.j t.n l, true)) (r0 := some (tzero, false)) (go := fun i x => Tm.subO vs (vs.map Tm.strip) false (d + tbinds t.kind i) (mode p' t.kind i) x)
      (fun m l i => by simp only [l139_2, o139_2, c139_3, o139_3]) (by omega) t.kids [] [] n rfl rfl (by omega) (fun i x c hi _ => by
        have hx := mem_of_get hi
        have hxs := Tm.size_kid hx
        have hbr := tbinds_range t.kind (i : Int)
        have ihx := ih i x hi
        simp only [f60_eq, f146_eq, Option.bind_some]
        rw [ckI_eq (by omega)]
        have e : ∀ q, q = (if p = true then true else md t.kind i) → ((f139 n x vs (d + tbinds t.kind i) q).bind fun r => if (!r.2) = true then some (Tm.mk 0 0 0 0 [], false) else c (Tm.mk r.1.kind r.1.i r.1.j r.1.n r.1.kids)) = match Tm.subO vs (vs.map Tm.strip) false (d + tbinds t.kind i) (mode p' t.kind i) x with
            | some y => c y
            | none => some (tzero, false) := by
          intro q hq
          rw [hq, ihx, Option.bind_some]
          cases Tm.subO vs (vs.map Tm.strip) false (d + tbinds t.kind i) (mode p' t.kind i) x with
          | none => rfl
          | some y => simp [out2, Tm.eta]
        cases p with
        | true => rw [if_pos rfl]; exact e _ rfl
        | false => rw [if_neg (by simp)]; exact e _ rfl)
    rw [len_nil] at this
    refine Eq.trans this ?_
    cases kidsM (fun i x => Tm.subO vs (vs.map Tm.strip) false (d + tbinds t.kind i) (mode p' t.kind i) x) 0 t.kids <;> rfl
  simp only [f139, o139_0]
  rw [Tm.subO_eq]
  by_cases hk : t.kind = 2
  · obtain ⟨v1, v2, v3, v4, v5⟩ := Tm.right_var hr hk
    rw [Tm.free_eq, if_pos hk] at hf
    rw [if_pos (by simpa using hk)]
    by_cases hfi : d ≤ t.i
    · have hlt : (t.i - d).toNat < vs.length := by omega
      have hg := List.getElem?_eq_getElem hlt
      have hx := hv _ (List.getElem_mem hlt)
      rw [if_pos ⟨hk, hfi⟩, decide_eq_true hfi, ← hpp hk]
      simp only [c139_1, o139_1]
      rw [if_pos trivial, ckI_eq (by omega), atI_eq (by omega) hg, f145_ok n _ d p hx.1 (by omega) (by omega) hd0 (by omega)]
      unfold Tm.pick
      rw [if_neg (show ¬ (vs.length : Int) ≤ t.i - d by omega)]
      cases p with
      | true => rw [if_pos rfl, if_pos rfl, List.getElem?_map, hg]; rfl
      | false => rw [if_neg (by simp), if_neg (by simp), hg]; rfl
    · rw [if_neg (by omega), decide_eq_false hfi, hz]
      rfl
  · rw [if_neg (by simpa using hk), if_neg (fun h => hk h.1), hz]
    rfl
theorem f139_true (vs : List Tm) (M : Nat) (hv : Small M vs) (hvb : vs.length ≤ BIG) (hMB : M ≤ BIG) : ∀ (n : Nat) (t : Tm) (d : Int), t.size + M + 5 < n → t.size ≤ BIG → t.right = true → 0 ≤ d → d + 2 * t.size ≤ 1000000000 → t.free ≤ d + vs.length →
    f139 n t vs d true = some (out2 (Tm.subO vs (vs.map Tm.strip) false d true t))
  | 0, t, d, h, _, _, _, _, _ => by omega
  | n + 1, t, d, h, hb, hr, hd0, hd, hf => by
    refine f139_step vs M hv hvb hMB n t d true true h hb hr hd0 hd hf (fun _ => rfl) (fun i x hi => ?_)
    have hx := mem_of_get hi
    have hxs := Tm.size_kid hx
    have hbr := tbinds_range t.kind (i : Int)
    have hk2 : t.kind ≠ 2 := fun h => by rw [(Tm.right_var hr h).2.2.2.2] at hx; cases hx
    rw [Tm.free_eq, if_neg hk2] at hf
    have := frees_at (k := t.kind) hi
    have ih := f139_true vs M hv hvb hMB n x (d + tbinds t.kind i) (by omega) (by omega) (Tm.right_kid hr hx) (by omega) (by omega) (by omega)
    exact ih
theorem markeds_get {k : Int} {l : List Tm} : ∀ {i j : Nat} {x : Tm}, Tm.markeds k i l = true → l[j]? = some x → (if k = 12 ∧ i + j = 2 then x.plain else x.marked) = true := by
  induction l with
  | nil => intro i j x _ h; simp at h
  | cons y ys ih =>
    intro i j x hm h
    simp only [Tm.markeds, Bool.and_eq_true] at hm
    cases j with
    | zero => simp at h; subst h; exact hm.1
    | succ j =>
      have := ih hm.2 (by simpa using h : ys[j]? = some x)
      rwa [show i + 1 + j = i + (j + 1) by omega] at this
theorem f139_false (vs : List Tm) (M : Nat) (hv : Small M vs) (hvb : vs.length ≤ BIG) (hMB : M ≤ BIG) : ∀ (n : Nat) (t : Tm) (d : Int), t.size + M + 5 < n → t.size ≤ BIG → t.marked = true → 0 ≤ d → d + 2 * t.size ≤ 1000000000 → t.free ≤ d + vs.length →
    f139 n t vs d false = some (out2 (Tm.subO vs (vs.map Tm.strip) false d false t))
  | 0, t, d, h, _, _, _, _, _ => by omega
  | n + 1, t, d, h, hb, hm, hd0, hd, hf => by
    have hr := right_m hm
    refine f139_step vs M hv hvb hMB n t d false false h hb hr hd0 hd hf (fun _ => rfl) (fun i x hi => ?_)
    have hx := mem_of_get hi
    have hxs := Tm.size_kid hx
    have hbr := tbinds_range t.kind (i : Int)
    have hk2 : t.kind ≠ 2 := fun h => by rw [(Tm.right_var hr h).2.2.2.2] at hx; cases hx
    rw [Tm.free_eq, if_neg hk2] at hf
    have hfr := frees_at (k := t.kind) hi
    have hkm := marked_kind hm
    rw [Tm.marked_eq] at hm
    simp only [Bool.and_eq_true] at hm
    have hxm := markeds_get hm.2.2 hi
    rw [Nat.zero_add] at hxm
    by_cases h12 : t.kind = 12 ∧ i = 2
    · have e1 : md t.kind i = true := by simp [md, h12.1, h12.2]
      have e2 : mode false t.kind i = true := by simp [mode, h12.1, h12.2]
      rw [if_neg (by simp), e1, e2]
      exact f139_true vs M hv hvb hMB n x _ (by omega) (by omega) (Tm.right_kid hr hx) (by omega) (by omega) (by omega)
    · rw [if_neg h12] at hxm
      have e1 : md t.kind i = false := by simp only [md, Bool.or_eq_false_iff, Bool.and_eq_false_iff, decide_eq_false_iff_not]; omega
      have e2 : mode false t.kind i = false := by simp only [mode, Bool.false_or, Bool.and_eq_false_iff, decide_eq_false_iff_not]; omega
      rw [if_neg (by simp), e1, e2]
      exact f139_false vs M hv hvb hMB n x _ (by omega) (by omega) hxm (by omega) (by omega) (by omega)
theorem low_marked {t : Tm} (hr : t.right = true) (h : t.kind = 1 ∨ t.kind = 2) : t.marked = true := by
  have hn := node_nil (Tm.right_node hr) h
  rw [Tm.marked_eq, Tm.right_node hr, hn]
  rcases h with h | h <;> rw [h] <;> rfl
theorem f139_top (vs : List Tm) (M : Nat) (hv : Small M vs) (hvb : vs.length ≤ BIG) (hMB : M ≤ BIG) (n : Nat) (t : Tm) (h : t.size + M + 5 < n) (hb : t.size ≤ 1000) (hr : t.right = true) (hf : t.free ≤ vs.length) :
    f139 n t vs 0 false = some (out2 (Tm.subO vs (vs.map Tm.strip) false 0 (decide (13 ≤ t.kind)) t)) := by
  have hBig := BIG_eq
  by_cases hm : t.marked = true
  · have := marked_kind hm
    rw [decide_eq_false (by omega)]
    exact f139_false vs M hv hvb hMB n t 0 h (by omega) hm (by omega) (by omega) (by omega)
  · have h13 : 13 ≤ t.kind := by
      have hr' := hr
      unfold Tm.right at hr'
      rcases Bool.or_eq_true_iff.1 hr' with h | h
      · exact absurd h hm
      · rcases plain_kind' h with h | h | h
        · exact absurd (low_marked hr (.inl h)) hm
        · exact absurd (low_marked hr (.inr h)) hm
        · exact h
    rw [decide_eq_true h13]
    obtain ⟨n, rfl⟩ : ∃ m, n = m + 1 := ⟨n - 1, by omega⟩
    refine f139_step vs M hv hvb hMB n t 0 false true h (by omega) hr (by omega) (by omega) (by omega) (fun h => by omega) (fun i x hi => ?_)
    have hx := mem_of_get hi
    have hxs := Tm.size_kid hx
    have hbr := tbinds_range t.kind (i : Int)
    rw [Tm.free_eq, if_neg (by omega)] at hf
    have := frees_at (k := t.kind) hi
    have e1 : md t.kind i = true := by simp only [md, Bool.or_eq_true, decide_eq_true_eq]; left; omega
    rw [if_neg (by simp), e1]
    exact f139_true vs M hv hvb hMB n x _ (by omega) (by omega) (Tm.right_kid hr hx) (by omega) (by omega) (by omega)
theorem f136_ok (n : Nat) (t v : Tm) (ht : t.size < n) (hv : v.size < n) (htb : t.size ≤ BIG) (hvb : v.size ≤ BIG) (hr : t.right = true) : f136 n t v = some (okv t v) := by
  simp only [f136, o136_0]
  rw [f81_ok n v hv hvb, f77_ok n t ht htb, f70_ok n v hv hvb, Option.bind_some, Option.bind_some, Option.bind_some]
  unfold okv
  cases hvr : v.right with
  | false => rfl
  | true =>
    rw [if_pos rfl]
    simp only [decide_eq_true_eq, Bool.true_and]
    by_cases h1 : t.kind = 1
    · rw [if_pos h1]; simp [h1]
    rw [if_neg h1]
    by_cases h2 : t.kind = 2
    · rw [if_pos h2]; simp [h2]
    rw [if_neg h2]
    by_cases h3 : t.plain = true
    · have := plain_kind' h3
      rw [if_pos h3, decide_eq_true (show 13 ≤ t.kind by omega)]; simp
    · rw [if_neg h3]
      have hm : t.marked = true := by
        unfold Tm.right at hr
        rcases Bool.or_eq_true_iff.1 hr with h | h
        · exact h
        · exact absurd h h3
      have hk := marked_kind hm
      have e : (decide (t.kind = 1) || decide (t.kind = 2) || decide (13 ≤ t.kind)) = false := by simp [h1, h2]; omega
      rw [e, Bool.false_or]
      congr 1
      by_cases hvm : v.marked = true
      · have := marked_kind hvm
        rw [hvm, decide_eq_true (by omega)]
      · rw [Bool.eq_false_iff.2 hvm, decide_eq_false]
        intro h13
        have hvr' := hvr
        unfold Tm.right at hvr'
        rcases Bool.or_eq_true_iff.1 hvr' with h | h
        · exact hvm h
        · rcases plain_kind' h with h | h | h
          · exact hvm (low_marked hvr (.inl h))
          · exact hvm (low_marked hvr (.inr h))
          · omega
theorem Tm.subO_none (vs ps : List Tm) : ∀ (n : Nat) (t : Tm) (d : Int) (p : Bool), t.size < n → 0 ≤ d → d + vs.length < t.free → Tm.subO vs ps false d p t = none
  | 0, t, d, p, h, _, _ => by omega
  | n + 1, t, d, p, h, hd0, hf => by
    rw [Tm.subO_eq]
    rw [Tm.free_eq] at hf
    by_cases hk : t.kind = 2
    · rw [if_pos hk] at hf
      rw [if_pos ⟨hk, by omega⟩]
      unfold Tm.pick
      rw [if_pos (show (vs.length : Int) ≤ t.i - d by omega), if_neg (by simp)]
    · rw [if_neg hk] at hf
      rw [if_neg (fun h => hk h.1)]
      obtain ⟨j, x, hj, hx⟩ := frees_some (by omega : 0 ≤ d + (vs.length : Int)) hf
      have hxm := mem_of_get hj
      have hb := tbinds_range t.kind ((0 + j : Nat) : Int)
      rw [kidsM_none (go := fun i x => Tm.subO vs ps false (d + tbinds t.kind i) (mode p t.kind i) x) hj (Tm.subO_none vs ps n x _ _ (by have := Tm.size_kid hxm; omega) (by omega) (by omega))]
theorem Tm.lift_size (k : Int) : ∀ (n : Nat) (t : Tm) (f : Int) (y : Tm), t.size < n → Tm.lift k f t = some y → y.size = t.size
  | 0, t, f, y, h, _ => by omega
  | n + 1, t, f, y, h, hy => by
    rw [Tm.lift_eq] at hy
    by_cases hk : t.kind = 2
    · rw [if_pos hk] at hy
      by_cases hd : f ≤ t.i
      · rw [if_pos hd] at hy
        by_cases h2 : 2147483647 - t.i < k
        · rw [if_pos h2] at hy; simp at hy
        · rw [if_neg h2] at hy; simp at hy; subst hy; rw [Tm.size_eq, Tm.size_eq t]; rfl
      · rw [if_neg hd] at hy
        simp at hy
        rw [hy]
    · rw [if_neg hk] at hy
      cases hl : kidsM (fun i x => Tm.lift k (f + tbinds t.kind i) x) 0 t.kids with
      | none => rw [hl] at hy; simp at hy
      | some l =>
        rw [hl] at hy
        simp at hy
        subst hy
        have := kidsM_size hl (fun j x y hx hxy => Tm.lift_size k n x _ y (by have := Tm.size_kid hx; omega) hxy)
        rw [Tm.size_eq, Tm.size_eq t, ← this]; rfl
theorem kidsM_size2 {go : Nat → Tm → Option Tm} {M : Nat} : ∀ {i : Nat} {l ys : List Tm}, kidsM go i l = some ys → (∀ (j : Nat) x y, x ∈ l → go j x = some y → y.size ≤ x.size * M) → Tm.sizes ys ≤ Tm.sizes l * M
  | _, [], ys, h, _ => by simp [kidsM] at h; subst h; simp [Tm.sizes]
  | i, x :: xs, ys, h, hg => by
    simp only [kidsM] at h
    cases h1 : go i x with
    | none => rw [h1] at h; simp at h
    | some y =>
      cases h2 : kidsM go (i + 1) xs with
      | none => rw [h1, h2] at h; simp at h
      | some zs =>
        rw [h1, h2] at h
        simp at h
        subst h
        have a1 := hg i x y (by simp) h1
        have a2 := kidsM_size2 h2 (fun j x y hx => hg j x y (by simp [hx]))
        simp only [Tm.sizes, Nat.add_mul]
        omega
theorem Tm.subO_size (vs ps : List Tm) (M : Nat) (hM : 1 ≤ M) (hv : ∀ x ∈ vs, x.size ≤ M) (hp : ∀ x ∈ ps, x.size ≤ M) : ∀ (n : Nat) (t : Tm) (d : Int) (p : Bool) (y : Tm), t.size < n → Tm.subO vs ps false d p t = some y → y.size ≤ t.size * M
  | 0, t, d, p, y, h, _ => by omega
  | n + 1, t, d, p, y, h, hy => by
    rw [Tm.subO_eq] at hy
    have hge : M ≤ t.size * M := by
      have : 1 ≤ t.size := by rw [Tm.size_eq]; omega
      exact Nat.le_mul_of_pos_left M this
    by_cases hk : t.kind = 2 ∧ d ≤ t.i
    · rw [if_pos hk] at hy
      unfold Tm.pick at hy
      by_cases h1 : (vs.length : Int) ≤ t.i - d
      · rw [if_pos h1, if_neg (by simp)] at hy; simp at hy
      · rw [if_neg h1] at hy
        cases hg : (if p = true then ps else vs)[(t.i - d).toNat]? with
        | none => rw [hg] at hy; simp at hy
        | some x =>
          rw [hg] at hy
          have hx : x.size ≤ M := by
            have := mem_of_get hg
            cases p with
            | true => exact hp x this
            | false => exact hv x this
          have := Tm.lift_size d _ x 0 y (Nat.lt_succ_self _) hy
          omega
    · rw [if_neg hk] at hy
      cases hl : kidsM (fun i x => Tm.subO vs ps false (d + tbinds t.kind i) (mode p t.kind i) x) 0 t.kids with
      | none => rw [hl] at hy; simp at hy
      | some l =>
        rw [hl] at hy
        simp at hy
        subst hy
        have := kidsM_size2 hl (M := M) (fun j x y hx hxy => Tm.subO_size vs ps M hM hv hp n x _ _ y (by have := Tm.size_kid hx; omega) hxy)
        rw [Tm.size_eq, Tm.size_eq t, Nat.add_mul]
        show 1 + Tm.sizes l ≤ _
        omega
theorem l102_ok (n : Nat) (t : Tm) (vs : List Tm) (ht : t.size < n) (htb : t.size ≤ BIG) (hr : t.right = true) (hn : ∀ x ∈ vs, x.size < n) (hb : ∀ x ∈ vs, x.size ≤ BIG) (hvb : vs.length ≤ BIG) (r : Option (Tm × Bool)) (hrr : vs.all (okv t) = true → ((f139 n t vs (0 : Int) false).bind fun x5 => if (!x5.2) then some ((Tm.mk (0 : Int) (0 : Int) (0 : Int) (0 : Int) ([] : List Tm)), false) else some (x5.1, true)) = r) :
    ∀ (rest pre : List Tm) (m : Nat), vs = pre ++ rest → rest.length < m → pre.all (okv t) = true →
    l102_2 n m vs t 0 0 0 0 (pre.length : Int) = bif rest.all (okv t) then r else some (tzero, false) := by
  intro rest
  induction rest with
  | nil =>
    intro pre m hk hm hall
    obtain ⟨m, rfl⟩ := fuel hm
    have hk' := hk
    rw [List.append_nil] at hk'
    simp only [l102_2, o102_2]
    rw [if_neg (by simpa using ge_at hk), hrr (by rw [hk']; exact hall)]
    rfl
  | cons x rest ih =>
    intro pre m hk hm hall
    obtain ⟨m, rfl⟩ := fuel hm
    simp only [List.length_cons] at hm
    have hp : pre.length ≤ BIG := by rw [hk] at hvb; simp at hvb; omega
    have hxm : x ∈ vs := by rw [hk]; simp
    have hlt := lt_at hk
    simp only [l102_2, o102_2]
    rw [if_pos (by simpa using hlt), atI_at hk, f136_ok n t x ht (hn x hxm) htb (hb x hxm) hr, Option.bind_some, List.all_cons]
    cases hx : okv t x with
    | false => rfl
    | true =>
      have := ih (pre ++ [x]) m (next_at hk) (by omega) (by simp [List.all_append, hall, hx])
      rw [len_snoc] at this
      rw [if_neg (by simp), ckI_eq (idx_ok hp), this, Bool.true_and]
theorem f102_ok (n : Nat) (t : Tm) (vs : List Tm) (M : Nat) (hn : ∀ x ∈ vs, x.size ≤ M) (hb : M ≤ BIG) (hvb : vs.length ≤ BIG) (hvn : vs.length < n) (hs : t.size + M + 5 < n) (hts : t.size ≤ 1000) : f102 n t vs = some (t.allZ vs) := by
  have hBig := BIG_eq
  simp only [f102, o102_0]
  rw [f81_ok n t (by omega) (by omega), Option.bind_some]
  unfold Tm.allZ
  cases hr : t.right with
  | false => rfl
  | true =>
    rw [if_neg (by simp), f127_ok n t (by omega) (by omega) hr, Option.bind_some, if_pos rfl]
    simp only [decide_eq_true_eq]
    unfold Tm.suball
    by_cases hlt : (vs.length : Int) < t.free
    · rw [if_pos hlt, Tm.subO_none vs _ _ t 0 _ (Nat.lt_succ_self _) (by omega) (by omega)]
      split <;> rfl
    · rw [if_neg hlt]
      simp only [c102_1, o102_1]
      have := l102_ok n t vs (by omega) (by omega) hr (fun x hx => by have := hn x hx; omega) (fun x hx => by have := hn x hx; omega) hvb (some (out2 (Tm.subO vs (vs.map Tm.strip) false 0 (decide (13 ≤ t.kind)) t))) (fun hall => by
        have hsm : Small M vs := fun x hx => ⟨by have := List.all_eq_true.1 hall x hx; unfold okv at this; simp only [Bool.and_eq_true] at this; exact this.1, hn x hx⟩
        rw [f139_top vs M hsm hvb hb n t hs hts hr (by omega), Option.bind_some]
        cases Tm.subO vs (vs.map Tm.strip) false 0 (decide (13 ≤ t.kind)) t <;> rfl) vs [] n rfl hvn rfl
      rw [len_nil] at this
      refine Eq.trans this ?_
      cases vs.all (okv t) <;> rfl
theorem Tm.allZ_size (t : Tm) (vs : List Tm) (M : Nat) (hM : 1 ≤ M) (hv : ∀ x ∈ vs, x.size ≤ M) : (t.allZ vs).1.size ≤ t.size * M ∨ (t.allZ vs).1 = tzero := by
  unfold Tm.allZ Tm.suball
  split
  · split
    next h =>
      have hr : ∀ x ∈ vs, x.right = true := fun x hx => by have := List.all_eq_true.1 h x hx; unfold okv at this; simp only [Bool.and_eq_true] at this; exact this.1
      cases hs : Tm.subO vs (vs.map Tm.strip) false 0 (decide (13 ≤ t.kind)) t with
      | none => exact .inr rfl
      | some y => exact .inl (Tm.subO_size vs _ M hM hv (fun x hx => by
          obtain ⟨z, hz, rfl⟩ := List.mem_map.1 hx
          have := Tm.strip_size' z (hr z hz)
          have := hv z hz
          omega) _ t 0 _ y (Nat.lt_succ_self _) hs)
    · exact .inr rfl
  · exact .inr rfl
end Go.Proofs.Yteaglcbnkephgaa
