/-
  Arguments read as trees, and a row follows from the contract of its function, which returns true.
-/
import Derived.Test.YteaglcbnkephgaaLabB
import Derived.ProofKit
import Derived.Test.YteaglcbnkephgaaProg
import Derived.Test.YteaglcbnkephgaaRows
set_option linter.unusedSimpArgs false
set_option linter.unusedVariables false
namespace Go.Proofs.Yteaglcbnkephgaa
open Go Go.RowKit

/-! ## Trees as data -/
inductive Dv where
  | mk (r i : Int) (ks : List Dv)

mutual
def Dv.cells : Dv → List C
  | .mk r i ks => [.int r, .int i, .slice (Dv.rows ks)]
def Dv.rows : List Dv → List (List C)
  | [] => []
  | k :: ks => k.cells :: Dv.rows ks
end

inductive Tm where
  | mk (kind i j n : Int) (ks : List Tm)

mutual
def Tm.cells : Tm → List C
  | .mk kind i j n ks => [.int kind, .int i, .int j, .int n, .slice (Tm.rows ks)]
def Tm.rows : List Tm → List (List C)
  | [] => []
  | k :: ks => k.cells :: Tm.rows ks
end

def Dv.kids : Dv → List Dv
  | .mk _ _ ks => ks
def Tm.kids : Tm → List Tm
  | .mk _ _ _ _ ks => ks

mutual
def Dv.Ok : Dv → Prop
  | .mk r i ks => InI64 r ∧ InI64 i ∧ Dv.Oks ks
def Dv.Oks : List Dv → Prop
  | [] => True
  | k :: ks => k.Ok ∧ Dv.Oks ks
end
mutual
def Tm.Ok : Tm → Prop
  | .mk kind i j n ks => InI64 kind ∧ InI64 i ∧ InI64 j ∧ InI64 n ∧ Tm.Oks ks
def Tm.Oks : List Tm → Prop
  | [] => True
  | k :: ks => k.Ok ∧ Tm.Oks ks
end

theorem Dv.rows_eq (ks : List Dv) : Dv.rows ks = ks.map Dv.cells := by
  induction ks with
  | nil => simp [Dv.rows]
  | cons k ks ih => simp [Dv.rows, ih]
theorem Dv.rows_length (ks : List Dv) : (Dv.rows ks).length = ks.length := by rw [Dv.rows_eq]; simp
theorem Dv.cells_length (d : Dv) : d.cells.length = 3 := by cases d; rfl
theorem Dv.rows_get {ks : List Dv} {k : Nat} (h : k < ks.length) : (Dv.rows ks)[k]?.getD [] = ks[k].cells := by rw [Dv.rows_eq]; simp [h]
theorem Tm.rows_eq (ks : List Tm) : Tm.rows ks = ks.map Tm.cells := by
  induction ks with
  | nil => simp [Tm.rows]
  | cons k ks ih => simp [Tm.rows, ih]
theorem Tm.rows_length (ks : List Tm) : (Tm.rows ks).length = ks.length := by rw [Tm.rows_eq]; simp
theorem Tm.cells_length (d : Tm) : d.cells.length = 5 := by cases d; rfl
theorem Tm.rows_get {ks : List Tm} {k : Nat} (h : k < ks.length) : (Tm.rows ks)[k]?.getD [] = ks[k].cells := by rw [Tm.rows_eq]; simp [h]
theorem Dv.Oks_iff (ks : List Dv) : Dv.Oks ks ↔ ∀ k ∈ ks, k.Ok := by
  induction ks with
  | nil => simp [Dv.Oks]
  | cons k ks ih => simp [Dv.Oks, ih]
theorem Tm.Oks_iff (ks : List Tm) : Tm.Oks ks ↔ ∀ k ∈ ks, k.Ok := by
  induction ks with
  | nil => simp [Tm.Oks]
  | cons k ks ih => simp [Tm.Oks, ih]

/-- Induction over a tree: from all kids to the tree. -/
theorem Dv.ind {p : Dv → Prop} (h : ∀ r i ks, (∀ k ∈ ks, p k) → p (.mk r i ks)) : ∀ d, p d := by
  intro d
  refine Dv.rec (motive_1 := p) (motive_2 := fun ks => ∀ k ∈ ks, p k) (fun r i ks ih => h r i ks ih) (fun k hk => by cases hk) (fun k ks h1 h2 x hx => ?_) d
  rcases List.mem_cons.1 hx with rfl | hx
  · exact h1
  · exact h2 x hx
theorem Tm.ind {p : Tm → Prop} (h : ∀ kind i j n ks, (∀ k ∈ ks, p k) → p (.mk kind i j n ks)) : ∀ d, p d := by
  intro d
  refine Tm.rec (motive_1 := p) (motive_2 := fun ks => ∀ k ∈ ks, p k) (fun kind i j n ks ih => h kind i j n ks ih) (fun k hk => by cases hk) (fun k ks h1 h2 x hx => ?_) d
  rcases List.mem_cons.1 hx with rfl | hx
  · exact h1
  · exact h2 x hx

/-! ## Readings -/
def okR (w : World) (b _off : Nat) : Prop := b < w.heap.size

section
variable {H : Type} {enc : TypeId × Value → H} {P : Program} {w : World} {base : Nat} {sp : Nat → Bool} {hd : Bool}

theorem wf_i64 {n : Int} (h : (Lit.int .i64 n).wf = true) : InI64 n := by
  simp only [Lit.wf, Bool.and_eq_true, decide_eq_true_eq] at h
  unfold InI64
  simp [IntKind.min, IntKind.max, IntKind.bits, IntKind.signed] at h
  omega

theorem cell_lt {b o : Nat} {s : Option Nat} {v : Value} (h : w.cell? ⟨b, o, s⟩ = some v) : b < w.heap.size := by
  rcases Nat.lt_or_ge b w.heap.size with h1 | h1
  · exact h1
  · simp [World.cell?, Array.getElem?_eq_none h1] at h

/-- A slice whose rows read, each by itself. -/
theorem read_rows {α : Type} (f : α → List C) (g : α → Prop) {t e sz : Nat} (ht : P.underlying t = some (.slice e)) (hsz : P.cellsOf e = sz) (hpos : 0 < sz) (hl : ∀ a, (f a).length = sz) {fuel : Nat}
    (ih : ∀ cs x, DataW.trod enc P w base sp hd fuel e cs = some x → ∃ a, All2 (Rep (okR w) w) (f a) cs ∧ g a) {cs : List Value} {x : DataW H × List MemPlace}
    (h : DataW.trod enc P w base sp hd (fuel + 1) t cs = some x) : ∃ (zs : List α) (v : Value), cs = [v] ∧ Rep (okR w) w (.slice (zs.map f)) v ∧ ∀ a ∈ zs, g a := by
  rcases DataW.trod_slice ht h with ⟨rfl, _⟩ | ⟨a, len, cap, elems, rest, n, hn, rfl, _, _, hlc, hcap, hlen, hel, _, _⟩
  · exact ⟨[], _, rfl, by simp only [List.map_nil, Rep]; exact ⟨none, 0, rfl, Nat.le_refl _, .inl (by simp)⟩, by simp⟩
  have hn' : n = fuel := by omega
  subst hn'
  have hch : ∀ i, i < len → ∃ y : α × List Value, w.cells? base (a.add (i * sz)) sz = some y.2 ∧ All2 (Rep (okR w) w) (f y.1) y.2 ∧ g y.1 := by
    intro i hi
    have h1 := hel i hi
    rw [List.getElem?_eq_getElem (by omega), hsz] at h1
    obtain ⟨cs', h2, h3⟩ := Option.bind_eq_some_iff.1 h1
    obtain ⟨y, h4, h5⟩ := ih cs' _ h3
    exact ⟨⟨y, cs'⟩, h2, h4, h5⟩
  have hex : ∀ m, m ≤ len → ∃ ys : List (α × List Value), ys.length = m ∧ ∀ i y, ys[i]? = some y → w.cells? base (a.add (i * sz)) sz = some y.2 ∧ All2 (Rep (okR w) w) (f y.1) y.2 ∧ g y.1 := by
    intro m
    induction m with
    | zero => intro _; exact ⟨[], rfl, by simp⟩
    | succ m ihm =>
      intro hm
      obtain ⟨ys, h1, h2⟩ := ihm (by omega)
      obtain ⟨y, hy⟩ := hch m (by omega)
      refine ⟨ys ++ [y], by simp [h1], fun i z hz => ?_⟩
      rcases Nat.lt_or_ge i m with hi | hi
      · rw [List.getElem?_append_left (by omega)] at hz
        exact h2 i z hz
      · rw [List.getElem?_append_right (by omega)] at hz
        have : i = m := by
          rcases Nat.lt_or_ge 0 (i - ys.length) with h | h
          · simp [List.getElem?_eq_none (show [y].length ≤ i - ys.length by simp; omega)] at hz
          · omega
        subst this
        simp [h1] at hz
        subst hz
        exact hy
  obtain ⟨ys, h1, h2⟩ := hex len (Nat.le_refl _)
  refine ⟨ys.map (·.1), _, rfl, ?_, fun z hz => ?_⟩
  · simp only [Rep]
    refine ⟨some a, cap, by simp [h1], by simp [h1]; omega, ?_⟩
    by_cases hne : ys = []
    · left; simp [hne]
    right
    obtain ⟨b, off, s⟩ := a
    -- the place is plain, and its block lies in the heap
    have hex0 : ∃ v0, w.cell? ⟨b, off, s⟩ = some v0 := by
      obtain ⟨y, hy⟩ : ∃ y, ys[0]? = some y := ⟨ys[0]'(by cases ys; exact absurd rfl hne; simp), by simp⟩
      obtain ⟨_, hlen', hc⟩ := World.cells?_some (h2 0 y hy).1
      have := hc 0 hpos
      rw [List.getElem?_eq_getElem (by omega)] at this
      exact ⟨_, by simpa [Addr.add] using this⟩
    obtain ⟨v0, hv0⟩ := hex0
    have hs : s = none := World.cell?_spot hv0
    subst hs
    refine ⟨b, off, sz, rfl, cell_lt hv0, RepRows.mk fun j r hj => ?_⟩
    simp only [List.getElem?_map, Option.map_map, Option.map_eq_some_iff] at hj
    obtain ⟨y, hy, rfl⟩ := hj
    obtain ⟨q1, q2, _⟩ := h2 j y hy
    obtain ⟨_, hlen', hc⟩ := World.cells?_some q1
    refine ⟨hl _, RepRow.mk fun i c hi => ?_⟩
    obtain ⟨u, hu1, hu2⟩ := q2.get i c hi
    refine ⟨u, ?_, hu2⟩
    have hi' : i < sz := by
      have := (List.getElem?_eq_some_iff.1 hi).1
      rw [← hl y.1]; exact this
    have := hc i hi'
    rw [hu1] at this
    have e : (Addr.add (Addr.add ⟨b, off, none⟩ (j * sz)) i) = ⟨b, off + j * sz + i, none⟩ := by
      unfold Addr.add
      by_cases h1 : j * sz = 0 <;> by_cases h2 : i = 0 <;> simp [h1, h2]
    rw [e] at this
    exact this
  · obtain ⟨y, hy, rfl⟩ := List.mem_map.1 hz
    obtain ⟨i, hi⟩ := List.mem_iff_getElem?.1 hy
    exact (h2 i y hi).2.2

theorem read_int {t fuel : Nat} (ht : P.underlying t = some (.int .i64)) {cs : List Value} {x : DataW H × List MemPlace} (h : DataW.trod enc P w base sp hd fuel t cs = some x) :
    ∃ n, cs = [.int .i64 n] ∧ InI64 n := by
  obtain ⟨n, h1, _, h2⟩ := DataW.trod_int ht h
  exact ⟨n, h1, wf_i64 h2⟩

end
end Go.Proofs.Yteaglcbnkephgaa

namespace Go.Proofs.Yteaglcbnkephgaa
open Go Go.RowKit Go.ChangeShapes Go.WideShapes

theorem Rep.loose {w : World} {c : C} {v : Value} (h : Rep (okR w) w c v) : Rep (okA 0 (fun _ => False) w false) w c v :=
  h.mono (fun _ _ h => ⟨h, fun h => h, fun h => by cases h⟩) (fun _ _ _ _ _ h => h)

section
variable {H : Type} {enc : TypeId × Value → H} {w : World} {base : Nat} {sp : Nat → Bool} {hd : Bool}

theorem read_dv : ∀ (fuel : Nat) (cs : List Value) (x : DataW H × List MemPlace), DataW.trod enc Try.prog w base sp hd fuel 24 cs = some x → ∃ d : Dv, All2 (Rep (okR w) w) d.cells cs ∧ d.Ok := by
  intro fuel
  induction fuel using Nat.strongRecOn with
  | _ fuel ih =>
    intro cs x h
    obtain ⟨xs, n, rfl, _, hl, hlen, hf⟩ := DataW.trod_struct Try.underlying24 h
    rw [show Try.prog.cellsOf 24 = 3 by kernel_rfl] at hl
    match cs, hl with
    | [c0, c1, c2], _ =>
      match xs, hlen with
      | [x0, x1, x2], _ =>
        have h0 : DataW.trod enc Try.prog w base sp hd n 3 ((List.drop 0 [c0, c1, c2]).take (Try.prog.cellsOf 3)) = ([x0, x1, x2] : List (DataW H × List MemPlace))[0]? := hf 0 _ rfl
        have h1 : DataW.trod enc Try.prog w base sp hd n 3 ((List.drop 1 [c0, c1, c2]).take (Try.prog.cellsOf 3)) = ([x0, x1, x2] : List (DataW H × List MemPlace))[1]? := hf 1 _ rfl
        have h2 : DataW.trod enc Try.prog w base sp hd n 22 ((List.drop 2 [c0, c1, c2]).take (Try.prog.cellsOf 22)) = ([x0, x1, x2] : List (DataW H × List MemPlace))[2]? := hf 2 _ rfl
        simp only [show Try.prog.cellsOf 3 = 1 by kernel_rfl, show Try.prog.cellsOf 22 = 1 by kernel_rfl, List.drop_zero, List.drop_succ_cons, List.take_succ_cons, List.take_zero, List.getElem?_cons_zero, List.getElem?_cons_succ] at h0 h1 h2
        obtain ⟨r, e0, w0⟩ := read_int Try.underlying3 h0
        obtain ⟨i, e1, w1⟩ := read_int Try.underlying3 h1
        simp only [List.cons.injEq, and_true] at e0 e1
        subst e0; subst e1
        match n, h2, ih with
        | 0, h2, _ => simp [DataW.trod] at h2
        | n + 1, h2, ih =>
          obtain ⟨ks, v, e2, hr, hk⟩ := read_rows Dv.cells Dv.Ok Try.underlying22 (by kernel_rfl) (by omega) Dv.cells_length (fun cs x h => ih n (by omega) cs x h) h2
          simp only [List.cons.injEq, and_true] at e2
          subst e2
          refine ⟨.mk r i ks, ?_, ?_⟩
          · simp only [Dv.cells, Dv.rows_eq]
            exact .cons (by simp only [Rep]) (.cons (by simp only [Rep]) (.cons hr .nil))
          · simp only [Dv.Ok, Dv.Oks_iff]
            exact ⟨w0, w1, hk⟩

theorem read_tm : ∀ (fuel : Nat) (cs : List Value) (x : DataW H × List MemPlace), DataW.trod enc Try.prog w base sp hd fuel 45 cs = some x → ∃ d : Tm, All2 (Rep (okR w) w) d.cells cs ∧ d.Ok := by
  intro fuel
  induction fuel using Nat.strongRecOn with
  | _ fuel ih =>
    intro cs x h
    obtain ⟨xs, n, rfl, _, hl, hlen, hf⟩ := DataW.trod_struct Try.underlying45 h
    rw [show Try.prog.cellsOf 45 = 5 by kernel_rfl] at hl
    match cs, hl with
    | [c0, c1, c2, c3, c4], _ =>
      match xs, hlen with
      | [x0, x1, x2, x3, x4], _ =>
        have h0 : DataW.trod enc Try.prog w base sp hd n 3 ((List.drop 0 [c0, c1, c2, c3, c4]).take (Try.prog.cellsOf 3)) = ([x0, x1, x2, x3, x4] : List (DataW H × List MemPlace))[0]? := hf 0 _ rfl
        have h1 : DataW.trod enc Try.prog w base sp hd n 3 ((List.drop 1 [c0, c1, c2, c3, c4]).take (Try.prog.cellsOf 3)) = ([x0, x1, x2, x3, x4] : List (DataW H × List MemPlace))[1]? := hf 1 _ rfl
        have h2 : DataW.trod enc Try.prog w base sp hd n 3 ((List.drop 2 [c0, c1, c2, c3, c4]).take (Try.prog.cellsOf 3)) = ([x0, x1, x2, x3, x4] : List (DataW H × List MemPlace))[2]? := hf 2 _ rfl
        have h3 : DataW.trod enc Try.prog w base sp hd n 3 ((List.drop 3 [c0, c1, c2, c3, c4]).take (Try.prog.cellsOf 3)) = ([x0, x1, x2, x3, x4] : List (DataW H × List MemPlace))[3]? := hf 3 _ rfl
        have h4 : DataW.trod enc Try.prog w base sp hd n 43 ((List.drop 4 [c0, c1, c2, c3, c4]).take (Try.prog.cellsOf 43)) = ([x0, x1, x2, x3, x4] : List (DataW H × List MemPlace))[4]? := hf 4 _ rfl
        simp only [show Try.prog.cellsOf 3 = 1 by kernel_rfl, show Try.prog.cellsOf 43 = 1 by kernel_rfl, List.drop_zero, List.drop_succ_cons, List.take_succ_cons, List.take_zero, List.getElem?_cons_zero, List.getElem?_cons_succ] at h0 h1 h2 h3 h4
        obtain ⟨k, e0, w0⟩ := read_int Try.underlying3 h0
        obtain ⟨i, e1, w1⟩ := read_int Try.underlying3 h1
        obtain ⟨j, e2, w2⟩ := read_int Try.underlying3 h2
        obtain ⟨m, e3, w3⟩ := read_int Try.underlying3 h3
        simp only [List.cons.injEq, and_true] at e0 e1 e2 e3
        subst e0; subst e1; subst e2; subst e3
        match n, h4, ih with
        | 0, h4, _ => simp [DataW.trod] at h4
        | n + 1, h4, ih =>
          obtain ⟨ks, v, e4, hr, hk⟩ := read_rows Tm.cells Tm.Ok Try.underlying43 (by kernel_rfl) (by omega) Tm.cells_length (fun cs x h => ih n (by omega) cs x h) h4
          simp only [List.cons.injEq, and_true] at e4
          subst e4
          refine ⟨.mk k i j m ks, ?_, ?_⟩
          · simp only [Tm.cells, Tm.rows_eq]
            exact .cons (by simp only [Rep]) (.cons (by simp only [Rep]) (.cons (by simp only [Rep]) (.cons (by simp only [Rep]) (.cons hr .nil))))
          · simp only [Tm.Ok, Tm.Oks_iff]
            exact ⟨w0, w1, w2, w3, hk⟩

variable {r : Reach} {b0 : Nat} {v : Value} {d : DataW H} {ps : List MemPlace}

theorem arg_int (hval : Value.okWide Try.prog w r b0 3 v) (h : DataW.Trod enc Try.prog w base sp hd 3 v d ps) : ∃ n : Int, gI 0 (fun _ => False) w false (.one (.int n)) v ∧ InI64 n := by
  obtain ⟨n, rfl, _, _, hw⟩ := open_int Try.underlying3 hval h
  exact ⟨n, by simp only [gI, Rep], wf_i64 hw⟩

theorem arg_str (hval : Value.okWide Try.prog w r b0 9 v) : ∃ s : ByteArray, gI 0 (fun _ => False) w false (.one (.str s)) v := by
  obtain ⟨s, rfl⟩ := okWide_string Try.underlying9 hval
  exact ⟨s, by simp only [gI, Rep]⟩

theorem arg_dv (hval : Value.okWide Try.prog w r b0 24 v) (h : DataW.Trod enc Try.prog w base sp hd 24 v d ps) : ∃ d : Dv, gI 0 (fun _ => False) w false (.agg d.cells) v ∧ d.Ok := by
  obtain ⟨cs, rfl, _⟩ := okWide_struct Try.underlying24 hval
  obtain ⟨fuel, hf⟩ := h
  obtain ⟨d, h1, h2⟩ := read_dv fuel _ _ hf
  refine ⟨d, ⟨cs.toList, by simp, ?_⟩, h2⟩
  have h3 : All2 (Rep (okR w) w) d.cells cs.toList := by simpa [Value.cells] using h1
  exact h3.mono fun _ _ h => Rep.loose h

theorem arg_tm (hval : Value.okWide Try.prog w r b0 45 v) (h : DataW.Trod enc Try.prog w base sp hd 45 v d ps) : ∃ d : Tm, gI 0 (fun _ => False) w false (.agg d.cells) v ∧ d.Ok := by
  obtain ⟨cs, rfl, _⟩ := okWide_struct Try.underlying45 hval
  obtain ⟨fuel, hf⟩ := h
  obtain ⟨d, h1, h2⟩ := read_tm fuel _ _ hf
  refine ⟨d, ⟨cs.toList, by simp, ?_⟩, h2⟩
  have h3 : All2 (Rep (okR w) w) d.cells cs.toList := by simpa [Value.cells] using h1
  exact h3.mono fun _ _ h => Rep.loose h

theorem arg_slice {α : Type} (f : α → List C) (g : α → Prop) {t e sz : Nat} (ht : Try.prog.underlying t = some (.slice e)) (hsz : Try.prog.cellsOf e = sz) (hpos : 0 < sz) (hl : ∀ a, (f a).length = sz)
    (ih : ∀ fuel cs x, DataW.trod enc Try.prog w base sp hd fuel e cs = some x → ∃ a, All2 (Rep (okR w) w) (f a) cs ∧ g a)
    (hval : Value.okWide Try.prog w r b0 t v) (h : DataW.Trod enc Try.prog w base sp hd t v d ps) : ∃ l : List α, gI 0 (fun _ => False) w false (.one (.slice (l.map f))) v ∧ ∀ a ∈ l, g a := by
  obtain ⟨a, len, cap, rfl⟩ := okWide_slice ht hval
  obtain ⟨fuel, hf⟩ := h
  cases fuel with
  | zero => simp [DataW.trod] at hf
  | succ fuel =>
    obtain ⟨l, v, h1, h2, h3⟩ := read_rows f g ht hsz hpos hl (ih fuel) hf
    have : v = .slice a len cap := by simpa [Value.cells] using h1.symm
    subst this
    exact ⟨l, h2.loose, h3⟩

theorem arg_ints (hval : Value.okWide Try.prog w r b0 25 v) (h : DataW.Trod enc Try.prog w base sp hd 25 v d ps) : ∃ l : List Int, gI 0 (fun _ => False) w false (.one (.slice (l.map fun n => [.int n]))) v ∧ ∀ n ∈ l, InI64 n :=
  arg_slice (sz := 1) (fun n => [C.int n]) InI64 Try.underlying25 (by kernel_rfl) (by omega) (fun _ => rfl) (fun fuel cs x h => by
    obtain ⟨n, rfl, hn⟩ := read_int Try.underlying3 h
    exact ⟨n, .cons (by simp only [Rep]) .nil, hn⟩) hval h

theorem arg_tms (hval : Value.okWide Try.prog w r b0 43 v) (h : DataW.Trod enc Try.prog w base sp hd 43 v d ps) : ∃ l : List Tm, gI 0 (fun _ => False) w false (.one (.slice (Tm.rows l))) v ∧ ∀ n ∈ l, n.Ok := by
  simp only [Tm.rows_eq]
  exact arg_slice (sz := 5) Tm.cells Tm.Ok Try.underlying43 (by kernel_rfl) (by omega) Tm.cells_length (fun fuel cs x h => read_tm fuel cs x h) hval h

/-- The arguments read behind the call as before. -/
theorem args_below {P : Program} (hlaid : laidOutB P = true) : ∀ {ts : List TypeId} {vs : List Value} {ds : List (DataW H)} {ps : List MemPlace} {W W' : World}, (∀ t ∈ ts, P.readableRec t = true ∧ t < P.types.size) →
    DataW.TrodAll enc P W 0 (fun _ => true) true ts vs ds ps → Below W.heap.size W W' → (∀ x ∈ ps, x.block < W.heap.size) → DataW.TrodAll enc P W' 0 (fun b => decide (b < W.heap.size)) true ts vs ds ps
  | [], vs, ds, ps, W, W', _, h, _, _ => by
    obtain ⟨rfl, rfl, rfl⟩ := trodAll_nil h
    exact trodAll_mk0
  | t :: ts, vs, ds, ps, W, W', ht, h, hb, hlt => by
    obtain ⟨v, vs1, d, ds1, a, b, rfl, rfl, rfl, h1, h2⟩ := trodAll_cons h
    exact ⟨a, b, Below.trod hlaid (ht t (by simp)).1 (ht t (by simp)).2 h1 hb (fun x hx => hlt x (by simp [hx])), args_below hlaid (fun t' h' => ht t' (by simp [h'])) h2 hb (fun x hx => hlt x (by simp [hx])), rfl⟩

theorem Try.laid : laidOutB Try.prog = true := by kernel_rfl
theorem Try.ownKnobs : ownKnob Try.prog.godebug = none := by kernel_rfl

/-- What a statement's row asks behind a call that returns true. -/
theorem post_true {f : Func} {s : ChangeSpec} {W W' : World} {args : Array Value} {ds gs : List (DataW H)} {before : List MemPlace}
    (hW : DataW.Whole enc Try.prog f.params.toList s.vars false W args.toList ds gs before) (hv : s.vars = []) (hp : ∀ t ∈ f.params.toList, Try.prog.readableRec t = true ∧ t < Try.prog.types.size)
    (hb : Below W.heap.size W W') (hrt : f.resultTypes = #[4]) (hs : s.fn H ds = { results := [.lit (.bool true)], args := ds }) :
    s.post enc Try.prog f false true false false W args (.bool true) W' := by
  have hlt := hW.lt
  have hW' := hW
  obtain ⟨p, q, hA, hV, rfl, hfz, hnd⟩ := hW'
  rw [hv] at hV
  obtain ⟨rfl, rfl⟩ := trodVars_none hV
  refine ⟨ds, [], _, [], p, [], hW, ?_, ?_, ?_, hb.frame _, fun h => by cases h⟩
  · rw [List.append_nil, hs, hrt]
    exact trodAll_mk1 (RowKit.shut_bool Try.underlying4 true)
  · rw [List.append_nil, hs]
    exact args_below Try.laid hp hA hb (fun x hx => hlt x (by simp [hx]))
  · rw [hv, List.append_nil, hs]
    rfl

end

/-- From the contract of a statement's function to its row: the reading of the arguments is the one thing left. -/
theorem lift_true {f : FuncId} {fn : Func} {s : ChangeSpec} {os : Os} (started : os.Started) {H : Type} {enc : TypeId × Value → H} (noInit : Try.checked.prog.inits.idxOf? f = none) (hfn : Try.checked.prog.funcs[f]? = some fn)
    (witness : ∃ (w : World) (tape : Tape) (i : Input), w.os = os ∧ (w.forCall tape i).Shaped Try.checked.prog ∧ i.vars = [] ∧ Input.okWide Try.checked.prog (w.forCall tape i) .any w.heap.size f i ∧
      s.pre6 enc Try.checked.prog fn [] false (w.forCall tape i).memory i.args ∧ (({} : Assume)).holds Try.checked.prog (lone (Frame.enter Try.checked.prog f i.args .normal) [] (w.forCall tape i)))
    (hv : s.vars = []) (hp : ∀ t ∈ fn.params.toList, Try.prog.readableRec t = true ∧ t < Try.prog.types.size) (hrt : fn.resultTypes = #[4])
    (hs : ∀ ds : List (DataW H), ds.length = fn.params.toList.length → s.fn H ds = { results := [.lit (.bool true)], args := ds })
    (contract : ∀ (W : World) (base : Nat) (args : Array Value) (ds : List (DataW H)) (ps : List MemPlace),
      (∀ (j : Nat) t v, fn.params[j]? = some t → args[j]? = some v → Value.okWide Try.prog W .any base t v) →
      DataW.TrodAll enc Try.prog W 0 (fun _ => true) true fn.params.toList args.toList ds ps → ∃ ivs, ACalls Try.prog f ivs (.v (.one (.bool true))) true ∧ All2 (gI 0 (fun _ => False) W false) ivs args.toList) :
    ReturnsInHanded {} Try.checked os f .any (s.pre6 enc Try.checked.prog fn [] false) (s.post enc Try.checked.prog fn false true false false) := by
  refine returnsInHanded_of_change (C := Try.checked) Try.ownKnobs started noInit hfn witness ?_
  intro W base args ds gs before hval hW _ _
  have hW2 := hW
  obtain ⟨p, q, hA, hV, rfl, _, _⟩ := hW2
  obtain ⟨ivs, hC, hI⟩ := contract W base args ds p hval hA
  have hlen : ds.length = fn.params.toList.length := by
    have : ∀ {ts : List TypeId} {vs : List Value} {ds : List (DataW H)} {ps : List MemPlace}, DataW.TrodAll enc Try.checked.prog W 0 (fun _ => true) true ts vs ds ps → ds.length = ts.length := by
      intro ts
      induction ts with
      | nil => intro vs ds ps h; obtain ⟨rfl, rfl, rfl⟩ := trodAll_nil h; rfl
      | cons t ts ih =>
        intro vs ds ps h
        obtain ⟨v, vs1, d, ds1, a, b, rfl, rfl, rfl, h1, h2⟩ := trodAll_cons h
        simp [ih h2]
    exact this hA
  refine (hC.2 W (fun _ => False) args.toList (fun b h => h.elim) hI).mono ?_
  rintro e W' ⟨v, rfl, hr, hb⟩
  simp only [gR, gI, Rep] at hr
  subst hr
  exact ⟨_, rfl, post_true hW hv hp hb hrt (hs ds hlen)⟩

end Go.Proofs.Yteaglcbnkephgaa

namespace Go.Proofs.Yteaglcbnkephgaa
open Go

theorem words_app {w r : List Char} (h : w.all (fun c => decide (c ≠ Char.ofNat 32)) = true) : wordsSigns (w ++ Char.ofNat 32 :: r) = w :: wordsSigns r := by
  induction w with
  | nil => rfl
  | cons c w ih =>
    simp only [List.all_cons, Bool.and_eq_true, decide_eq_true_eq] at h
    have ih := ih h.2
    rw [List.cons_append]
    conv => lhs; unfold wordsSigns
    split
    · rename_i e; cases e
    · rename_i e; simp only [List.cons.injEq] at e; exact absurd e.1 h.1
    · rename_i c' r' _ e
      simp only [List.cons.injEq] at e
      obtain ⟨rfl, rfl⟩ := e
      rw [ih]

theorem behind_main {h s : List Char} {r : List (List Char)} (h1 : (h == "harness".toList) = true) (h2 : isSumSigns s = true) : behindMainWord (h :: s :: r) = r := by
  unfold behindMainWord
  dsimp only
  rw [h1, h2]
  rfl

theorem make_of {P : Program} {rest : List (List Char)} (h : behindMainWord (wordsSigns P.initOrder.toList) = [99, 117, 116].map Char.ofNat :: rest) : P.make = some .cut := by
  unfold Program.make
  rw [h]
  dsimp only
  rw [if_neg (by decide +kernel), if_pos (by
    rw [Bool.or_eq_true]
    left
    decide +kernel)]

theorem strip_cut : ∀ (os : List String) (rest : List (List Char)), os.all (fun o => !([99, 117, 116].map Char.ofNat == o.toList)) = true → stripLifts os ([99, 117, 116].map Char.ofNat :: rest) = ([], [99, 117, 116].map Char.ofNat :: rest)
  | [], rest, _ => rfl
  | o :: os, rest, h => by
    simp only [List.all_cons, Bool.and_eq_true, Bool.not_eq_true'] at h
    unfold stripLifts
    rw [if_neg (by rw [h.1]; simp)]
    exact strip_cut os rest h.2

theorem lifts_of {P : Program} {rest : List (List Char)} (h : behindMainWord (wordsSigns P.initOrder.toList) = [99, 117, 116].map Char.ofNat :: rest) : P.liftsFinal = false := by
  unfold Program.liftsFinal
  rw [h]
  have e : P.headLifts = [] := by
    unfold Program.headLifts
    rw [h]
    dsimp only
    rw [strip_cut liftWords rest (by decide +kernel)]
    split <;> rfl
  rw [e]
  simp only [List.contains_nil, Bool.or_false, List.head?_cons]
  rw [show (some ([99, 117, 116].map Char.ofNat) == some "carried".toList) = false by decide +kernel]
  rfl

theorem enter_of {P : Program} {rest : List (List Char)} (h : behindMainWord (wordsSigns P.initOrder.toList) = [99, 117, 116].map Char.ofNat :: rest) (h1 : P.laysLater = false) (h2 : P.bearsReflect = false) (h3 : P.doorFits [] = true) : P.mayEnter = true := by
  unfold Program.mayEnter
  rw [h]
  dsimp only
  rw [strip_cut liftWords rest (by decide +kernel), h1, h2, h3]
  simp only [Bool.or_eq_true]
  right
  simp only [List.head?_cons, List.contains_nil, Bool.not_false, Bool.or_true, Bool.and_true, Bool.true_and, Bool.false_or]
  decide +kernel

/-- The closed facts of a row over this program, one by one. -/
theorem joined_of {P : Program} {f : FuncId} {fn : Func} {s : ChangeSpec} {c : OpenClaim} (hs : s.vars = [])
    (a1 : c.wf (OpenSpec.ofChange s) = true) (a2 : laidOutB P = true) (a3 : mapsRowed P = true) (a4 : fn.params.all (P.readableRec ·) = true) (a5 : namedTie P c.named [] = true)
    (a6 : (c.stops == []) = true) (a7 : (P.stops == []) = true) (a8 : (c.knobs == []) = true) (a9 : (P.stopKnobs == []) = true)
    (b1 : (c.inPlace == P.inPlace f) = true) (b2 : (c.unfollowed == P.unfollowed f) = true) (b3 : (c.recurses == P.recurses f) = true) (b4 : (c.named == P.varsNamed f) = true)
    (c1 : (c.maps == fn.params.toList.any (P.mapsRec ·)) = true) (c2 : (c.ifaces == fn.params.toList.any (P.ifacesRec ·)) = true) (c3 : (c.mapsOut == P.mapsAmong fn.resultTypes.toList) = true)
    (c4 : (c.loops == fn.params.toList.any (P.loopsFrom ·)) = true) (c5 : (c.wideKeys == (fn.params.toList ++ fn.resultTypes.toList).any (P.wideKeysFrom ·)) = true)
    (d1 : fn.resultTypes.all (fun t => P.readableRec t && decide (t < P.types.size)) = true) (d2 : (c.ifacesOut == fn.resultTypes.toList.any (P.ifacesRec ·)) = true) (d3 : (c.loopsOut == fn.resultTypes.toList.any (P.loopsFrom ·)) = true) (d4 : (c.plainKeys == P.plainKeys) = true)
    (d5 : c.shortTexts.isNone = true) (d6 : P.stopsHeard = true) (d7 : P.mayEnter = true) (d8 : c.lifted = P.liftsFinal) (d9 : P.make = some c.make)
    (e1 : c.domain.isEmpty = true) (e2 : c.kinds = []) (e3 : (c.pinned == c.pinnedBy) = true)
    (e4 : (c.veiled == (fn.params.toList ++ fn.resultTypes.toList).any (P.veiledRec ·)) = true) (e5 : c.veiledFits P fn.params.toList (fn.params.toList ++ fn.resultTypes.toList) = true) :
    joinedFacts P f fn s c = true := by
  have hv : s.plain.varTypes P = [] := by
    unfold DataSpec.varTypes ChangeSpec.plain
    simp [hs]
  unfold joinedFacts
  rw [hv, hs]
  simp only [List.append_nil, a1, a2, a3, a4, a5, a6, a7, a8, a9, b1, b2, b3, b4, c1, c2, c3, c4, c5, d1, d2, d3, d4, d5, d6, d7, d8, d9, e1, e2, e3, e4, e5, List.all_nil, Bool.and_self, Bool.and_true, Bool.true_and, beq_self_eq_true, if_true]
end Go.Proofs.Yteaglcbnkephgaa

namespace Go.Proofs.Yteaglcbnkephgaa
open Go Go.Proofs.Yteaglcbnkephgaa
def Try.restSigns : List Nat := [97, 116, 32, 116, 114, 97, 110, 115, 104, 105, 112, 47, 116, 114, 97, 110, 115, 104, 105, 112, 108, 97, 119, 49, 50, 46, 68, 101, 114, 105, 118, 69, 120, 97, 99, 116, 32, 116, 114, 97, 110, 115, 104, 105, 112, 47, 116, 114, 97, 110, 115, 104, 105, 112, 108, 97, 119, 49, 50, 46, 68, 101, 114, 105, 118, 80, 97, 116, 104, 115, 32, 116, 114, 97, 110, 115, 104, 105, 112, 47, 116, 114, 97, 110, 115, 104, 105, 112, 108, 97, 119, 49, 50, 46, 68, 101, 114, 105, 118, 84, 97, 98, 108, 101, 32, 116, 114, 97, 110, 115, 104, 105, 112, 47, 116, 114, 97, 110, 115, 104, 105, 112, 108, 97, 119, 49, 50, 46, 68, 101, 114, 105, 118, 83, 97, 109, 101, 32, 116, 114, 97, 110, 115, 104, 105, 112, 47, 116, 114, 97, 110, 115, 104, 105, 112, 108, 97, 119, 48, 52, 46, 84, 101, 114, 109, 84, 97, 98, 108, 101, 32, 116, 114, 97, 110, 115, 104, 105, 112, 47, 116, 114, 97, 110, 115, 104, 105, 112, 108, 97, 119, 48, 52, 46, 84, 101, 114, 109, 83, 117, 109, 115, 32, 116, 114, 97, 110, 115, 104, 105, 112, 47, 116, 114, 97, 110, 115, 104, 105, 112, 108, 97, 119, 48, 56, 46, 69, 114, 97, 115, 101, 69, 120, 97, 99, 116, 32, 116, 114, 97, 110, 115, 104, 105, 112, 47, 116, 114, 97, 110, 115, 104, 105, 112, 108, 97, 119, 48, 56, 46, 69, 114, 97, 115, 101, 80, 117, 114, 101, 32, 116, 114, 97, 110, 115, 104, 105, 112, 47, 116, 114, 97, 110, 115, 104, 105, 112, 108, 97, 119, 48, 56, 46, 82, 101, 108, 97, 116, 101, 100, 69, 120, 97, 99, 116, 32, 116, 114, 97, 110, 115, 104, 105, 112, 47, 116, 114, 97, 110, 115, 104, 105, 112, 108, 97, 119, 48, 56, 46, 82, 101, 108, 97, 116, 101, 100, 77, 111, 118, 101, 100, 32, 116, 114, 97, 110, 115, 104, 105, 112, 47, 116, 114, 97, 110, 115, 104, 105, 112, 108, 97, 119, 48, 54, 46, 83, 116, 114, 105, 112, 69, 120, 97, 99, 116, 32, 116, 114, 97, 110, 115, 104, 105, 112, 47, 116, 114, 97, 110, 115, 104, 105, 112, 108, 97, 119, 48, 54, 46, 83, 116, 114, 105, 112, 80, 108, 97, 105, 110, 32, 116, 114, 97, 110, 115, 104, 105, 112, 47, 116, 114, 97, 110, 115, 104, 105, 112, 108, 97, 119, 48, 54, 46, 83, 116, 114, 105, 112, 77, 97, 114, 107, 115, 32, 116, 114, 97, 110, 115, 104, 105, 112, 47, 116, 114, 97, 110, 115, 104, 105, 112, 108, 97, 119, 48, 52, 46, 84, 101, 114, 109, 69, 120, 97, 99, 116, 32, 116, 114, 97, 110, 115, 104, 105, 112, 47, 116, 114, 97, 110, 115, 104, 105, 112, 108, 97, 119, 48, 52, 46, 84, 101, 114, 109, 83, 97, 109, 101, 32, 116, 114, 97, 110, 115, 104, 105, 112, 47, 116, 114, 97, 110, 115, 104, 105, 112, 108, 97, 119, 48, 52, 46, 84, 101, 114, 109, 83, 111, 114, 116, 115, 32, 116, 114, 97, 110, 115, 104, 105, 112, 47, 116, 114, 97, 110, 115, 104, 105, 112, 108, 97, 119, 48, 53, 46, 76, 105, 102, 116, 69, 120, 97, 99, 116, 32, 116, 114, 97, 110, 115, 104, 105, 112, 47, 116, 114, 97, 110, 115, 104, 105, 112, 108, 97, 119, 48, 53, 46, 76, 105, 102, 116, 84, 119, 105, 99, 101, 32, 116, 114, 97, 110, 115, 104, 105, 112, 47, 116, 114, 97, 110, 115, 104, 105, 112, 108, 97, 119, 48, 53, 46, 76, 105, 102, 116, 83, 116, 97, 121, 115, 32, 116, 114, 97, 110, 115, 104, 105, 112, 47, 116, 114, 97, 110, 115, 104, 105, 112, 108, 97, 119, 48, 53, 46, 76, 105, 102, 116, 70, 114, 101, 101, 32, 116, 114, 97, 110, 115, 104, 105, 112, 47, 116, 114, 97, 110, 115, 104, 105, 112, 108, 97, 119, 48, 53, 46, 82, 101, 110, 97, 109, 101, 69, 120, 97, 99, 116, 32, 116, 114, 97, 110, 115, 104, 105, 112, 47, 116, 114, 97, 110, 115, 104, 105, 112, 108, 97, 119, 48, 53, 46, 82, 101, 110, 97, 109, 101, 76, 105, 102, 116, 115, 32, 116, 114, 97, 110, 115, 104, 105, 112, 47, 116, 114, 97, 110, 115, 104, 105, 112, 108, 97, 119, 48, 54, 46, 83, 116, 114, 105, 112, 76, 105, 102, 116, 32, 116, 114, 97, 110, 115, 104, 105, 112, 47, 116, 114, 97, 110, 115, 104, 105, 112, 108, 97, 119, 48, 55, 46, 80, 117, 116, 69, 120, 97, 99, 116, 32, 116, 114, 97, 110, 115, 104, 105, 112, 47, 116, 114, 97, 110, 115, 104, 105, 112, 108, 97, 119, 48, 55, 46, 80, 117, 116, 83, 116, 114, 105, 112, 32, 116, 114, 97, 110, 115, 104, 105, 112, 47, 116, 114, 97, 110, 115, 104, 105, 112, 108, 97, 119, 48, 55, 46, 80, 117, 116, 70, 114, 101, 101, 32, 116, 114, 97, 110, 115, 104, 105, 112, 47, 116, 114, 97, 110, 115, 104, 105, 112, 108, 97, 119, 48, 55, 46, 65, 108, 108, 69, 120, 97, 99, 116, 32, 116, 114, 97, 110, 115, 104, 105, 112, 47, 116, 114, 97, 110, 115, 104, 105, 112, 108, 97, 119, 48, 55, 46, 80, 117, 116, 65, 108, 108, 32, 116, 114, 97, 110, 115, 104, 105, 112, 47, 116, 114, 97, 110, 115, 104, 105, 112, 108, 97, 119, 48, 55, 46, 80, 117, 116, 84, 119, 105, 99, 101, 32, 116, 114, 97, 110, 115, 104, 105, 112, 47, 116, 114, 97, 110, 115, 104, 105, 112, 108, 97, 119, 48, 55, 46, 80, 117, 116, 76, 105, 102, 116, 32, 116, 114, 97, 110, 115, 104, 105, 112, 47, 116, 114, 97, 110, 115, 104, 105, 112, 108, 97, 119, 48, 56, 46, 69, 114, 97, 115, 101, 71, 111, 101, 115]
def Try.sumSigns : List Nat := [57, 54, 57, 98, 52, 98, 98, 98, 102, 57, 52, 51, 102, 101, 48, 56, 51, 52, 50, 52, 48, 57, 99, 101, 99, 97, 99, 98, 52, 51, 50, 55, 49, 102, 55, 98, 48, 98, 102, 101, 57, 98, 102, 48, 53, 56, 51, 54, 100, 52, 52, 102, 53, 48, 57, 48, 54, 50, 52, 102, 55, 54, 56, 54]
theorem Try.initWord : Try.prog.initOrder = String.ofList ([104, 97, 114, 110, 101, 115, 115].map Char.ofNat ++ Char.ofNat 32 :: (Try.sumSigns.map Char.ofNat ++ Char.ofNat 32 :: ([99, 117, 116].map Char.ofNat ++ Char.ofNat 32 :: Try.restSigns.map Char.ofNat))) := by kernel_rfl
theorem Try.headWords : behindMainWord (wordsSigns Try.prog.initOrder.toList) = [99, 117, 116].map Char.ofNat :: wordsSigns (Try.restSigns.map Char.ofNat) := by
  rw [Try.initWord, String.toList_ofList, words_app (by decide), words_app (by decide +kernel), words_app (by decide)]
  exact behind_main (by decide +kernel) (by decide +kernel)
theorem Try.makes : Try.prog.make = some .cut := make_of Try.headWords
theorem Try.lifts : Try.prog.liftsFinal = false := lifts_of Try.headWords
theorem Try.enters : Try.prog.mayEnter = true := enter_of Try.headWords (by kernel_rfl) (by kernel_rfl) (by kernel_rfl)
theorem Try.mapsRows : mapsRowed Try.prog = true := by kernel_rfl
theorem Try.noStops : (Try.prog.stops == []) = true := by kernel_rfl
theorem Try.noStopKnobs : (Try.prog.stopKnobs == []) = true := by kernel_rfl
theorem Try.plainKeysAre : (true == Try.prog.plainKeys) = true := by kernel_rfl
theorem Try.heard : Try.prog.stopsHeard = true := by kernel_rfl

end Go.Proofs.Yteaglcbnkephgaa
