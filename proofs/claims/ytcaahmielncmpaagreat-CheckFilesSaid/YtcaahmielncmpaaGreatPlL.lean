/-
  Plain facts on what the functions compute.
-/
import Derived.Test.YtcaahmielncmpaaGreatPlK
set_option linter.unusedSimpArgs false
set_option linter.unusedVariables false
namespace Go.Proofs.YtcaahmielncmpaaGreat
open Go
/-! ## Putting terms for variables -/
def mode (p : Bool) (kd i : Int) : Bool := p || (decide (kd = 12) && decide (i = 2))
def Tm.pick (vs ps : List Tm) (one : Bool) (a d : Int) (p : Bool) : Option Tm :=
  if (vs.length : Int) ≤ a then (if one = true then some (.mk 2 (a - vs.length + d) 0 0 []) else none) else match (if p = true then ps else vs)[a.toNat]? with
    | some x => Tm.lift d 0 x
    | none => none
mutual
def Tm.subO (vs ps : List Tm) (one : Bool) : Int → Bool → Tm → Option Tm
  | d, p, .mk kd i j n ks => if kd = 2 ∧ d ≤ i then Tm.pick vs ps one (i - d) d p else match Tm.subOs vs ps one kd d p 0 ks with
    | some l => some (.mk kd i j n l)
    | none => none
def Tm.subOs (vs ps : List Tm) (one : Bool) (kd d : Int) (p : Bool) : Nat → List Tm → Option (List Tm)
  | _, [] => some []
  | i, x :: xs => match Tm.subO vs ps one (d + tbinds kd i) (mode p kd i) x, Tm.subOs vs ps one kd d p (i + 1) xs with
    | some y, some ys => some (y :: ys)
    | _, _ => none
end
theorem Tm.subOs_kids (vs ps : List Tm) (one : Bool) (kd d : Int) (p : Bool) : ∀ (i : Nat) (l : List Tm), Tm.subOs vs ps one kd d p i l = kidsM (fun i x => Tm.subO vs ps one (d + tbinds kd i) (mode p kd i) x) i l
  | _, [] => rfl
  | i, x :: xs => by
    simp only [Tm.subOs, kidsM, Tm.subOs_kids vs ps one kd d p (i + 1) xs]
    rfl
theorem Tm.subO_eq (vs ps : List Tm) (one : Bool) (d : Int) (p : Bool) (t : Tm) : Tm.subO vs ps one d p t = if t.kind = 2 ∧ d ≤ t.i then Tm.pick vs ps one (t.i - d) d p else match kidsM (fun i x => Tm.subO vs ps one (d + tbinds t.kind i) (mode p t.kind i) x) 0 t.kids with
    | some l => some (.mk t.kind t.i t.j t.n l)
    | none => none := by
  cases t with
  | mk kd i j n ks =>
    rw [← Tm.subOs_kids]
    rfl
def Small (M : Nat) (l : List Tm) : Prop := ∀ x ∈ l, x.right = true ∧ x.size ≤ M
theorem f144_ok (n : Nat) (vs ps : List Tm) (one p : Bool) (a d : Int) (M : Nat) (hv : Small M vs) (hp : Small M ps) (hl : ps.length = vs.length) (hb : vs.length ≤ BIG) (hM : M < n) (hMB : M ≤ BIG) (ha : 0 ≤ a ∧ a ≤ 2147483647) (hd : 0 ≤ d ∧ d ≤ 1000000000) :
    f144 n (vs, ps, one, ()) a d p = some (out2 (Tm.pick vs ps one a d p)) := by
  rw [BIG_eq] at hb hMB
  simp only [f144, o144_0, decide_eq_true_eq, ifB_eq]
  unfold Tm.pick
  by_cases h1 : (vs.length : Int) ≤ a
  · rw [if_pos h1, if_pos h1]
    cases one with
    | false => rfl
    | true => rw [if_neg (by simp), ckI_eq (by omega), ckI_eq (by omega)]; rfl
  · rw [if_neg h1, if_neg h1]
    have hlt : a.toNat < vs.length := by omega
    cases p with
    | true =>
      have hg := List.getElem?_eq_getElem (hl ▸ hlt : a.toNat < ps.length)
      have hx := hp _ (List.getElem_mem (hl ▸ hlt : a.toNat < ps.length))
      rw [if_pos rfl, atI_eq (by omega) hg, f121_ok d (by omega) (by omega) n _ 0 (by omega) (by rw [BIG_eq]; omega) hx.1 (by omega) (by rw [BIG_eq]; omega), Option.bind_some, if_pos rfl, hg]
    | false =>
      have hg := List.getElem?_eq_getElem hlt
      have hx := hv _ (List.getElem_mem hlt)
      rw [if_neg (by simp), atI_eq (by omega) hg, f121_ok d (by omega) (by omega) n _ 0 (by omega) (by rw [BIG_eq]; omega) hx.1 (by omega) (by rw [BIG_eq]; omega), Option.bind_some, if_neg (by simp), hg]
theorem f136_ok (vs ps : List Tm) (one : Bool) (M : Nat) (hv : Small M vs) (hp : Small M ps) (hl : ps.length = vs.length) (hvb : vs.length ≤ BIG) (hMB : M ≤ BIG) : ∀ (n : Nat) (t : Tm) (d : Int) (p : Bool), t.size + M < n → t.size ≤ BIG → t.right = true → 0 ≤ d → d + 2 * t.size ≤ 1000000000 → f136 n (vs, ps, one, ()) t d p = some (out2 (Tm.subO vs ps one d p t))
  | 0, t, d, p, h, _, _, _, _ => by omega
  | n + 1, t, d, p, h, hb, hr, hd0, hd => by
    have hlk := Tm.len_kids t
    have hz : c136_1 (f136 n) n (l136_2 (f136 n) n n) vs ps one d p t 0 0 0 0 false = some (out2 (match kidsM (fun i x => Tm.subO vs ps one (d + tbinds t.kind i) (mode p t.kind i) x) 0 t.kids with
        | some l => some (.mk t.kind t.i t.j t.n l)
        | none => none)) := by
      simp only [c136_1, o136_1, ifB_eq]
      rw [if_neg (by simp)]
      by_cases h0 : t.kids.length = 0
      · rw [if_pos (by simp [h0]), List.length_eq_zero_iff.1 h0]
        rfl
      · rw [if_neg (by simpa using h0), ckB_eq (by rw [BIG_eq] at hb; simp; omega)]
        have := fill_ok (L := fun m l i => l136_2 (f136 n) n m vs ps one d p t 0 0 0 0 l t.kids (t.kids.length : Int) i) (ks := t.kids)
          (B := fun i x c => (f120 t.kind i).bind fun b => ckI (d + b) <| if p then (f136 n (vs, ps, one, ()) x (d + b) true).bind fun r => if (!r.2) then some (Tm.mk 0 0 0 0 [], false) else c (Tm.mk r.1.kind r.1.i r.1.j r.1.n r.1.kids)
            else if (decide (t.kind = (12 : Int))) then (f136 n (vs, ps, one, ()) x (d + b) (decide (i = (2 : Int)))).bind fun r => if (!r.2) then some (Tm.mk 0 0 0 0 [], false) else c (Tm.mk r.1.kind r.1.i r.1.j r.1.n r.1.kids)
            else (f136 n (vs, ps, one, ()) x (d + b) false).bind fun r => if (!r.2) then some (Tm.mk 0 0 0 0 [], false) else c (Tm.mk r.1.kind r.1.i r.1.j r.1.n r.1.kids))
          (fin := fun l => some (Tm.mk t.kind t.i t.j t.n l, true)) (r0 := some (tzero, false)) (go := fun i x => Tm.subO vs ps one (d + tbinds t.kind i) (mode p t.kind i) x)
          (fun m l i => by simp only [l136_2, o136_2, c136_3, o136_3, ifB_eq]) (by omega) t.kids [] [] n rfl rfl (by omega) (fun i x c hi _ => by
            have hx := mem_of_get hi
            have hxs := Tm.size_kid hx
            have hbr := tbinds_range t.kind (i : Int)
            have ih := fun q => f136_ok vs ps one M hv hp hl hvb hMB n x (d + tbinds t.kind i) q (by omega) (by omega) (Tm.right_kid hr hx) (by omega) (by omega)
            simp only [f120_eq, Option.bind_some]
            rw [ckI_eq (by omega), ih, ih, ih]
            have e : ∀ q, q = mode p t.kind i → ((some (out2 (Tm.subO vs ps one (d + tbinds t.kind i) q x))).bind fun r => if (!r.2) = true then some (Tm.mk 0 0 0 0 [], false) else c (Tm.mk r.1.kind r.1.i r.1.j r.1.n r.1.kids)) = match Tm.subO vs ps one (d + tbinds t.kind i) (mode p t.kind i) x with
                | some y => c y
                | none => some (tzero, false) := by
              intro q hq
              rw [hq]
              cases Tm.subO vs ps one (d + tbinds t.kind i) (mode p t.kind i) x with
              | none => rfl
              | some y => simp [out2, Tm.eta]
            cases p with
            | true => rw [if_pos rfl]; exact e _ (by simp [mode])
            | false =>
              rw [if_neg (by simp)]
              by_cases h12 : t.kind = 12
              · rw [if_pos (by simpa using h12)]; exact e _ (by simp [mode, h12])
              · rw [if_neg (by simpa using h12)]; exact e _ (by simp [mode, h12]))
        rw [len_nil] at this
        refine Eq.trans this ?_
        cases kidsM (fun i x => Tm.subO vs ps one (d + tbinds t.kind i) (mode p t.kind i) x) 0 t.kids <;> rfl
    simp only [f136, o136_0, ifB_eq]
    rw [Tm.subO_eq]
    by_cases hk : t.kind = 2
    · obtain ⟨v1, v2, v3, v4, v5⟩ := Tm.right_var hr hk
      rw [if_pos (by simpa using hk)]
      by_cases hfi : d ≤ t.i
      · rw [if_pos ⟨hk, hfi⟩, decide_eq_true hfi]
        simp only [c136_1, o136_1, ifB_eq]
        rw [if_pos trivial, ckI_eq (by omega), f144_ok n vs ps one p _ d M hv hp hl hvb (by omega) hMB (by omega) (by omega)]
        rfl
      · rw [if_neg (by omega), decide_eq_false hfi, hz]
    · rw [if_neg (by simpa using hk), if_neg (fun h => hk h.1), hz]
/-- May this term be put in that one. -/
def okv (t v : Tm) : Bool := v.right && (decide (t.kind = 1) || decide (t.kind = 2) || decide (13 ≤ t.kind) || decide (v.kind < 13))
theorem set_last {α : Type} (l : List α) (z y : α) : (l ++ [z]).set l.length y = l ++ [y] := by
  simp
def Tm.suball (t : Tm) (vs : List Tm) (one : Bool) : Tm × Bool := if vs.all (okv t) = true then out2 (Tm.subO vs (vs.map Tm.strip) one 0 (decide (13 ≤ t.kind)) t) else (tzero, false)
theorem f134_eq (t : Tm) : f134 t = some (decide (t.kind = 1) || decide (t.kind = 2) || decide (13 ≤ t.kind)) := by
  unfold f134 o134_0
  simp only [ifB_eq]
  grind
theorem l138_ok (n : Nat) (t : Tm) (vs : List Tm) (one : Bool) (hn : ∀ x ∈ vs, x.size + 1 < n) (hb : ∀ x ∈ vs, x.size ≤ BIG) (hvb : vs.length ≤ BIG) (r : Option (Tm × Bool)) (hr : vs.all (okv t) = true → ((f136 n (vs, vs.map Tm.strip, one, ()) t 0 (decide (13 ≤ t.kind))).bind fun x4 => some (x4.1, x4.2)) = r) :
    ∀ (rest pre : List Tm) (m : Nat), vs = pre ++ rest → rest.length < m → pre.all (okv t) = true →
    l123_1 n m t 0 0 0 0 vs (pre.map Tm.strip) one vs (vs.length : Int) (pre.length : Int) = bif rest.all (okv t) then r else some (tzero, false) := by
  intro rest
  induction rest with
  | nil =>
    intro pre m hk hm hall
    obtain ⟨m, rfl⟩ := fuel hm
    have hk' := hk
    rw [List.append_nil] at hk'
    simp only [l123_1, o123_1, decide_eq_true_eq, ifB_eq]
    rw [if_neg (ge_at hk), ← hk', hr (by rw [hk']; exact hall)]
    rfl
  | cons x rest ih =>
    intro pre m hk hm hall
    obtain ⟨m, rfl⟩ := fuel hm
    simp only [List.length_cons] at hm
    have hp : pre.length ≤ BIG := by rw [hk] at hvb; simp at hvb; omega
    have hxm : x ∈ vs := by rw [hk]; simp
    simp only [l123_1, o123_1, decide_eq_true_eq, ifB_eq]
    rw [if_pos (lt_at hk), atI_at hk, f91_ok n x (by have := hn x hxm; omega) (hb x hxm), Option.bind_some]
    rw [List.all_cons]
    cases hxr : x.right with
    | false =>
      rw [if_pos (by simp), show okv t x = false by simp [okv, hxr]]
      rfl
    | true =>
      rw [if_neg (by simp), f134_eq, Option.bind_some]
      have hstep : okv t x = true → c123_2 n (l123_1 n m) t 0 0 0 0 vs (pre.map Tm.strip) one x vs (vs.length : Int) (pre.length : Int) = bif (okv t x && rest.all (okv t)) then r else some (tzero, false) := by
        intro hx
        have := ih (pre ++ [x]) m (next_at hk) (by omega) (by simp [List.all_append, hall, hx])
        rw [len_snoc] at this
        simp only [c123_2, o123_2, ifB_eq]
        rw [f135_ok n x (hn x hxm) (hb x hxm), Option.bind_some]
        rw [BIG_eq] at hp
        rw [ckB_eq (by simp; omega), ckB_eq (by simp; omega), ckB_eq (by simp), ckI_eq (by omega)]
        rw [show ((List.map Tm.strip pre).length : Int).toNat = (List.map Tm.strip pre).length by simp, set_last, hx, Bool.true_and, ← this]
        have e : x.stripZ = x.strip := by unfold Tm.stripZ; rw [if_pos hxr]
        rw [e, Tm.eta, List.map_append]
        rfl
      cases hh : (decide (t.kind = 1) || decide (t.kind = 2) || decide (13 ≤ t.kind)) with
      | true =>
        rw [if_neg (by simp)]
        exact hstep (by simp only [okv, hxr, hh]; rfl)
      | false =>
        rw [if_pos (by simp)]
        by_cases h13 : 13 ≤ x.kind
        · rw [if_pos h13, show okv t x = false by simp only [okv, hh, hxr]; simp; omega]
          rfl
        · rw [if_neg h13]
          exact hstep (by simp only [okv, hxr, hh]; simp; omega)
theorem strip_small {M : Nat} {l : List Tm} (h : Small M l) : Small M (l.map Tm.strip) := by
  intro x hx
  obtain ⟨y, hy, rfl⟩ := List.mem_map.1 hx
  have := Tm.right_strip y (h y hy).1
  have := Tm.strip_size' y (h y hy).1
  have := (h y hy).2
  constructor
  · unfold Tm.right; simp [*]
  · omega
def Tm.putZ (t v : Tm) : Tm := if t.right = true then (t.suball [v] true).1 else tzero
end Go.Proofs.YtcaahmielncmpaaGreat
