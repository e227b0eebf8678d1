/-
  Arguments read as trees, and a row follows from the contract of its function, which returns true.
-/
import Derived.Test.YtcaahmielncmpaaTypedA
import Derived.Laws.Cover2
import Derived.Test.YtcaahmielncmpaaProg
import Derived.Test.YtcaahmielncmpaaRows
set_option linter.unusedSimpArgs false
set_option linter.unusedVariables false
namespace Go.Proofs.Ytcaahmielncmpaa
open Go Go.RowKit Go.ChangeShapes Go.WideShapes
set_option maxRecDepth 100000

theorem Rep.loose {w : World} {c : C} {v : Value} (h : Rep (okR w) w c v) : Rep (okA 0 (fun _ => False) w false) w c v :=
  h.mono (fun _ _ h => ⟨h, fun h => h, fun h => by cases h⟩) (fun _ _ _ _ _ h => h)

section
variable {H : Type} {enc : TypeId × Value → H} {w : World} {base : Nat} {sp : Nat → Bool} {hd : Bool}

theorem read_dv : ∀ (fuel : Nat) (cs : List Value) (x : DataW H × List MemPlace), DataW.trod enc Try.prog w base sp hd fuel 66 cs = some x → ∃ d : Dv, All2 (Rep (okR w) w) d.cells cs ∧ d.Ok := by
  intro fuel
  induction fuel using Nat.strongRecOn with
  | _ fuel ih =>
    intro cs x h
    obtain ⟨xs, n, rfl, _, hl, hlen, hf⟩ := DataW.trod_struct Try.underlying66 h
    rw [show Try.prog.cellsOf 66 = 3 by kernel_rfl] at hl
    match cs, hl with
    | [c0, c1, c2], _ =>
      match xs, hlen with
      | [x0, x1, x2], _ =>
        have h0 : DataW.trod enc Try.prog w base sp hd n 3 ((List.drop 0 [c0, c1, c2]).take (Try.prog.cellsOf 3)) = ([x0, x1, x2] : List (DataW H × List MemPlace))[0]? := hf 0 _ rfl
        have h1 : DataW.trod enc Try.prog w base sp hd n 3 ((List.drop 1 [c0, c1, c2]).take (Try.prog.cellsOf 3)) = ([x0, x1, x2] : List (DataW H × List MemPlace))[1]? := hf 1 _ rfl
        have h2 : DataW.trod enc Try.prog w base sp hd n 64 ((List.drop 2 [c0, c1, c2]).take (Try.prog.cellsOf 64)) = ([x0, x1, x2] : List (DataW H × List MemPlace))[2]? := hf 2 _ rfl
        simp only [show Try.prog.cellsOf 3 = 1 by kernel_rfl, show Try.prog.cellsOf 64 = 1 by kernel_rfl, List.drop_zero, List.drop_succ_cons, List.take_succ_cons, List.take_zero, List.getElem?_cons_zero, List.getElem?_cons_succ] at h0 h1 h2
        obtain ⟨r, e0, w0⟩ := read_int Try.underlying3 h0
        obtain ⟨i, e1, w1⟩ := read_int Try.underlying3 h1
        simp only [List.cons.injEq, and_true] at e0 e1
        subst e0; subst e1
        match n, h2, ih with
        | 0, h2, _ => simp [DataW.trod] at h2
        | n + 1, h2, ih =>
          obtain ⟨ks, v, e2, hr, hk⟩ := read_rows Dv.cells Dv.Ok Try.underlying64 (by kernel_rfl) (by omega) Dv.cells_length (fun cs x h => ih n (by omega) cs x h) h2
          simp only [List.cons.injEq, and_true] at e2
          subst e2
          refine ⟨.mk r i ks, ?_, ?_⟩
          · simp only [Dv.cells, Dv.rows_eq]
            exact .cons (by simp only [Rep]) (.cons (by simp only [Rep]) (.cons hr .nil))
          · simp only [Dv.Ok, Dv.Oks_iff]
            exact ⟨w0, w1, hk⟩

theorem read_tm : ∀ (fuel : Nat) (cs : List Value) (x : DataW H × List MemPlace), DataW.trod enc Try.prog w base sp hd fuel 24 cs = some x → ∃ d : Tm, All2 (Rep (okR w) w) d.cells cs ∧ d.Ok := by
  intro fuel
  induction fuel using Nat.strongRecOn with
  | _ fuel ih =>
    intro cs x h
    obtain ⟨xs, n, rfl, _, hl, hlen, hf⟩ := DataW.trod_struct Try.underlying24 h
    rw [show Try.prog.cellsOf 24 = 5 by kernel_rfl] at hl
    match cs, hl with
    | [c0, c1, c2, c3, c4], _ =>
      match xs, hlen with
      | [x0, x1, x2, x3, x4], _ =>
        have h0 : DataW.trod enc Try.prog w base sp hd n 3 ((List.drop 0 [c0, c1, c2, c3, c4]).take (Try.prog.cellsOf 3)) = ([x0, x1, x2, x3, x4] : List (DataW H × List MemPlace))[0]? := hf 0 _ rfl
        have h1 : DataW.trod enc Try.prog w base sp hd n 3 ((List.drop 1 [c0, c1, c2, c3, c4]).take (Try.prog.cellsOf 3)) = ([x0, x1, x2, x3, x4] : List (DataW H × List MemPlace))[1]? := hf 1 _ rfl
        have h2 : DataW.trod enc Try.prog w base sp hd n 3 ((List.drop 2 [c0, c1, c2, c3, c4]).take (Try.prog.cellsOf 3)) = ([x0, x1, x2, x3, x4] : List (DataW H × List MemPlace))[2]? := hf 2 _ rfl
        have h3 : DataW.trod enc Try.prog w base sp hd n 3 ((List.drop 3 [c0, c1, c2, c3, c4]).take (Try.prog.cellsOf 3)) = ([x0, x1, x2, x3, x4] : List (DataW H × List MemPlace))[3]? := hf 3 _ rfl
        have h4 : DataW.trod enc Try.prog w base sp hd n 22 ((List.drop 4 [c0, c1, c2, c3, c4]).take (Try.prog.cellsOf 22)) = ([x0, x1, x2, x3, x4] : List (DataW H × List MemPlace))[4]? := hf 4 _ rfl
        simp only [show Try.prog.cellsOf 3 = 1 by kernel_rfl, show Try.prog.cellsOf 22 = 1 by kernel_rfl, List.drop_zero, List.drop_succ_cons, List.take_succ_cons, List.take_zero, List.getElem?_cons_zero, List.getElem?_cons_succ] at h0 h1 h2 h3 h4
        obtain ⟨k, e0, w0⟩ := read_int Try.underlying3 h0
        obtain ⟨i, e1, w1⟩ := read_int Try.underlying3 h1
        obtain ⟨j, e2, w2⟩ := read_int Try.underlying3 h2
        obtain ⟨m, e3, w3⟩ := read_int Try.underlying3 h3
        simp only [List.cons.injEq, and_true] at e0 e1 e2 e3
        subst e0; subst e1; subst e2; subst e3
        match n, h4, ih with
        | 0, h4, _ => simp [DataW.trod] at h4
        | n + 1, h4, ih =>
          obtain ⟨ks, v, e4, hr, hk⟩ := read_rows Tm.cells Tm.Ok Try.underlying22 (by kernel_rfl) (by omega) Tm.cells_length (fun cs x h => ih n (by omega) cs x h) h4
          simp only [List.cons.injEq, and_true] at e4
          subst e4
          refine ⟨.mk k i j m ks, ?_, ?_⟩
          · simp only [Tm.cells, Tm.rows_eq]
            exact .cons (by simp only [Rep]) (.cons (by simp only [Rep]) (.cons (by simp only [Rep]) (.cons (by simp only [Rep]) (.cons hr .nil))))
          · simp only [Tm.Ok, Tm.Oks_iff]
            exact ⟨w0, w1, w2, w3, hk⟩

theorem read_bool {t fuel : Nat} (ht : Try.prog.underlying t = some .bool) {cs : List Value} {x : DataW H × List MemPlace} (h : DataW.trod enc Try.prog w base sp hd fuel t cs = some x) :
    ∃ n, cs = [.bool n] := by
  obtain ⟨n, h1, _⟩ := DataW.trod_bool ht h
  exact ⟨n, h1⟩
def EntOk (e : Ent) : Prop := e.a.Ok ∧ InI64 e.i
def JdOk (j : Jd) : Prop := j.u.Ok ∧ j.v.Ok ∧ j.a.Ok ∧ InI64 j.i
theorem read_ent (fuel : Nat) (cs : List Value) (x : DataW H × List MemPlace) (h : DataW.trod enc Try.prog w base sp hd fuel 45 cs = some x) : ∃ d : Ent, All2 (Rep (okR w) w) (Ty.cells .ent d) cs ∧ EntOk d := by
  obtain ⟨xs, n, rfl, _, hl, hlen, hf⟩ := DataW.trod_struct Try.underlying45 h
  rw [show Try.prog.cellsOf 45 = 6 by kernel_rfl] at hl
  match cs, hl with
  | [c0, c1, c2, c3, c4, c5], _ =>
    match xs, hlen with
    | [x0, x1], _ =>
    have h0 : DataW.trod enc Try.prog w base sp hd n 24 ((List.drop 0 [c0, c1, c2, c3, c4, c5]).take (Try.prog.cellsOf 24)) = ([x0, x1] : List (DataW H × List MemPlace))[0]? := hf 0 _ rfl
    have h1 : DataW.trod enc Try.prog w base sp hd n 3 ((List.drop 5 [c0, c1, c2, c3, c4, c5]).take (Try.prog.cellsOf 3)) = ([x0, x1] : List (DataW H × List MemPlace))[1]? := hf 1 _ rfl
    simp only [show Try.prog.cellsOf 3 = 1 by kernel_rfl, show Try.prog.cellsOf 24 = 5 by kernel_rfl, List.drop_zero, List.drop_succ_cons, List.take_succ_cons, List.take_zero, List.getElem?_cons_zero, List.getElem?_cons_succ] at h0 h1
    obtain ⟨v0, q0, w0⟩ := read_tm n _ _ h0
    obtain ⟨v1, e1, w1⟩ := read_int Try.underlying3 h1
    simp only [List.cons.injEq, and_true] at e1
    subst e1
    refine ⟨⟨v0, v1⟩, ?_, ⟨w0, w1⟩⟩
    exact (All2.append q0 (.cons (by simp only [Rep]) .nil))
theorem read_jd (fuel : Nat) (cs : List Value) (x : DataW H × List MemPlace) (h : DataW.trod enc Try.prog w base sp hd fuel 49 cs = some x) : ∃ d : Jd, All2 (Rep (okR w) w) (Ty.cells .jd d) cs ∧ JdOk d := by
  obtain ⟨xs, n, rfl, _, hl, hlen, hf⟩ := DataW.trod_struct Try.underlying49 h
  rw [show Try.prog.cellsOf 49 = 17 by kernel_rfl] at hl
  match cs, hl with
  | [c0, c1, c2, c3, c4, c5, c6, c7, c8, c9, c10, c11, c12, c13, c14, c15, c16], _ =>
    match xs, hlen with
    | [x0, x1, x2, x3, x4], _ =>
    have h0 : DataW.trod enc Try.prog w base sp hd n 4 ((List.drop 0 [c0, c1, c2, c3, c4, c5, c6, c7, c8, c9, c10, c11, c12, c13, c14, c15, c16]).take (Try.prog.cellsOf 4)) = ([x0, x1, x2, x3, x4] : List (DataW H × List MemPlace))[0]? := hf 0 _ rfl
    have h1 : DataW.trod enc Try.prog w base sp hd n 24 ((List.drop 1 [c0, c1, c2, c3, c4, c5, c6, c7, c8, c9, c10, c11, c12, c13, c14, c15, c16]).take (Try.prog.cellsOf 24)) = ([x0, x1, x2, x3, x4] : List (DataW H × List MemPlace))[1]? := hf 1 _ rfl
    have h2 : DataW.trod enc Try.prog w base sp hd n 24 ((List.drop 6 [c0, c1, c2, c3, c4, c5, c6, c7, c8, c9, c10, c11, c12, c13, c14, c15, c16]).take (Try.prog.cellsOf 24)) = ([x0, x1, x2, x3, x4] : List (DataW H × List MemPlace))[2]? := hf 2 _ rfl
    have h3 : DataW.trod enc Try.prog w base sp hd n 24 ((List.drop 11 [c0, c1, c2, c3, c4, c5, c6, c7, c8, c9, c10, c11, c12, c13, c14, c15, c16]).take (Try.prog.cellsOf 24)) = ([x0, x1, x2, x3, x4] : List (DataW H × List MemPlace))[3]? := hf 3 _ rfl
    have h4 : DataW.trod enc Try.prog w base sp hd n 3 ((List.drop 16 [c0, c1, c2, c3, c4, c5, c6, c7, c8, c9, c10, c11, c12, c13, c14, c15, c16]).take (Try.prog.cellsOf 3)) = ([x0, x1, x2, x3, x4] : List (DataW H × List MemPlace))[4]? := hf 4 _ rfl
    simp only [show Try.prog.cellsOf 3 = 1 by kernel_rfl, show Try.prog.cellsOf 4 = 1 by kernel_rfl, show Try.prog.cellsOf 24 = 5 by kernel_rfl, List.drop_zero, List.drop_succ_cons, List.take_succ_cons, List.take_zero, List.getElem?_cons_zero, List.getElem?_cons_succ] at h0 h1 h2 h3 h4
    obtain ⟨v0, e0⟩ := read_bool Try.underlying4 h0
    simp only [List.cons.injEq, and_true] at e0
    subst e0
    obtain ⟨v1, q1, w1⟩ := read_tm n _ _ h1
    obtain ⟨v2, q2, w2⟩ := read_tm n _ _ h2
    obtain ⟨v3, q3, w3⟩ := read_tm n _ _ h3
    obtain ⟨v4, e4, w4⟩ := read_int Try.underlying3 h4
    simp only [List.cons.injEq, and_true] at e4
    subst e4
    refine ⟨⟨v0, v1, v2, v3, v4⟩, ?_, ⟨w1, w2, w3, w4⟩⟩
    exact .cons (by simp only [Rep]) (All2.append (All2.append (All2.append q1 q2) q3) (.cons (by simp only [Rep]) .nil))
variable {r : Reach} {b0 : Nat} {v : Value} {d : DataW H} {ps : List MemPlace}

theorem arg_int (hval : Value.okWide Try.prog w r b0 3 v) (h : DataW.Trod enc Try.prog w base sp hd 3 v d ps) : ∃ n : Int, gI 0 (fun _ => False) w false (.one (.int n)) v ∧ InI64 n := by
  obtain ⟨n, rfl, _, _, hw⟩ := open_int Try.underlying3 hval h
  exact ⟨n, by simp only [gI, Rep], wf_i64 hw⟩

theorem arg_dv (hval : Value.okWide Try.prog w r b0 66 v) (h : DataW.Trod enc Try.prog w base sp hd 66 v d ps) : ∃ d : Dv, gI 0 (fun _ => False) w false (.agg d.cells) v ∧ d.Ok := by
  obtain ⟨cs, rfl, _⟩ := okWide_struct Try.underlying66 hval
  obtain ⟨fuel, hf⟩ := h
  obtain ⟨d, h1, h2⟩ := read_dv fuel _ _ hf
  refine ⟨d, ⟨cs.toList, by simp, ?_⟩, h2⟩
  have h3 : All2 (Rep (okR w) w) d.cells cs.toList := by simpa [Value.cells] using h1
  exact h3.mono fun _ _ h => Rep.loose h

theorem arg_tm (hval : Value.okWide Try.prog w r b0 24 v) (h : DataW.Trod enc Try.prog w base sp hd 24 v d ps) : ∃ d : Tm, gI 0 (fun _ => False) w false (.agg d.cells) v ∧ d.Ok := by
  obtain ⟨cs, rfl, _⟩ := okWide_struct Try.underlying24 hval
  obtain ⟨fuel, hf⟩ := h
  obtain ⟨d, h1, h2⟩ := read_tm fuel _ _ hf
  refine ⟨d, ⟨cs.toList, by simp, ?_⟩, h2⟩
  have h3 : All2 (Rep (okR w) w) d.cells cs.toList := by simpa [Value.cells] using h1
  exact h3.mono fun _ _ h => Rep.loose h

theorem arg_flt (hval : Value.okWide Try.prog w r b0 67 v) : ∃ n : Nat, gI 0 (fun _ => False) w false (.one (.flt n)) v := by
  obtain ⟨n, rfl⟩ := okWide_float Try.underlying67 hval
  exact ⟨n, by simp only [gI, Rep]⟩
theorem arg_st {t : Nat} {fs : Array Field} (ht : Try.prog.underlying t = some (.struct fs)) {α : Type} (f : α → List C) (g : α → Prop) (ih : ∀ fuel cs x, DataW.trod enc Try.prog w base sp hd fuel t cs = some x → ∃ a, All2 (Rep (okR w) w) (f a) cs ∧ g a)
    (hval : Value.okWide Try.prog w r b0 t v) (h : DataW.Trod enc Try.prog w base sp hd t v d ps) : ∃ a : α, gI 0 (fun _ => False) w false (.agg (f a)) v ∧ g a := by
  obtain ⟨cs, rfl, _⟩ := okWide_struct ht hval
  obtain ⟨fuel, hf⟩ := h
  obtain ⟨a, h1, h2⟩ := ih fuel _ _ hf
  refine ⟨a, ⟨cs.toList, by simp, ?_⟩, h2⟩
  have h3 : All2 (Rep (okR w) w) (f a) cs.toList := by simpa [Value.cells] using h1
  exact h3.mono fun _ _ h => Rep.loose h
theorem arg_jd (hval : Value.okWide Try.prog w r b0 49 v) (h : DataW.Trod enc Try.prog w base sp hd 49 v d ps) : ∃ d : Jd, gI 0 (fun _ => False) w false (.agg (jdC d)) v ∧ JdOk d :=
  arg_st Try.underlying49 jdC JdOk read_jd hval h
theorem arg_slice {α : Type} (f : α → List C) (g : α → Prop) {t e sz : Nat} (ht : Try.prog.underlying t = some (.slice e)) (hsz : Try.prog.cellsOf e = sz) (hpos : 0 < sz) (hl : ∀ a, (f a).length = sz)
    (ih : ∀ fuel cs x, DataW.trod enc Try.prog w base sp hd fuel e cs = some x → ∃ a, All2 (Rep (okR w) w) (f a) cs ∧ g a)
    (hval : Value.okWide Try.prog w r b0 t v) (h : DataW.Trod enc Try.prog w base sp hd t v d ps) : ∃ l : List α, gI 0 (fun _ => False) w false (.one (.slice (l.map f))) v ∧ ∀ a ∈ l, g a := by
  obtain ⟨a, len, cap, rfl⟩ := okWide_slice ht hval
  obtain ⟨fuel, hf⟩ := h
  cases fuel with
  | zero => simp [DataW.trod] at hf
  | succ fuel =>
    obtain ⟨l, v, h1, h2, h3⟩ := read_rows f g ht hsz hpos hl (ih fuel) hf
    have : v = .slice a len cap := by simpa [Value.cells] using h1.symm
    subst this
    exact ⟨l, h2.loose, h3⟩

theorem arg_ents (hval : Value.okWide Try.prog w r b0 35 v) (h : DataW.Trod enc Try.prog w base sp hd 35 v d ps) : ∃ l : List Ent, gI 0 (fun _ => False) w false (.one (.slice (l.map entC))) v ∧ ∀ n ∈ l, EntOk n :=
  arg_slice (sz := 6) entC EntOk Try.underlying35 (by kernel_rfl) (by omega) (fun a => by show (Ty.cells .ent a).length = 6; exact Go.Proofs.Ytcaahmielncmpaa.cells_length .ent a) (fun fuel cs x h => read_ent fuel cs x h) hval h
theorem arg_jds (hval : Value.okWide Try.prog w r b0 51 v) (h : DataW.Trod enc Try.prog w base sp hd 51 v d ps) : ∃ l : List Jd, gI 0 (fun _ => False) w false (.one (.slice (l.map jdC))) v ∧ ∀ n ∈ l, JdOk n :=
  arg_slice (sz := 17) jdC JdOk Try.underlying51 (by kernel_rfl) (by omega) (fun a => by show (Ty.cells .jd a).length = 17; exact Go.Proofs.Ytcaahmielncmpaa.cells_length .jd a) (fun fuel cs x h => read_jd fuel cs x h) hval h
theorem arg_dvs (hval : Value.okWide Try.prog w r b0 64 v) (h : DataW.Trod enc Try.prog w base sp hd 64 v d ps) : ∃ l : List Dv, gI 0 (fun _ => False) w false (.one (.slice (l.map Dv.cells))) v ∧ ∀ n ∈ l, n.Ok :=
  arg_slice (sz := 3) Dv.cells Dv.Ok Try.underlying64 (by kernel_rfl) (by omega) Dv.cells_length (fun fuel cs x h => read_dv fuel cs x h) hval h
/-- The arguments read behind the call as before. -/
theorem args_below {P : Program} (hlaid : laidOutB P = true) : ∀ {ts : List TypeId} {vs : List Value} {ds : List (DataW H)} {ps : List MemPlace} {W W' : World}, (∀ t ∈ ts, P.readableRec t = true ∧ t < P.types.size) →
    DataW.TrodAll enc P W 0 (fun _ => true) true ts vs ds ps → Below W.heap.size W W' → (∀ x ∈ ps, x.block < W.heap.size) → DataW.TrodAll enc P W' 0 (fun b => decide (b < W.heap.size)) true ts vs ds ps
  | [], vs, ds, ps, W, W', _, h, _, _ => by
    obtain ⟨rfl, rfl, rfl⟩ := trodAll_nil h
    exact trodAll_mk0
  | t :: ts, vs, ds, ps, W, W', ht, h, hb, hlt => by
    obtain ⟨v, vs1, d, ds1, a, b, rfl, rfl, rfl, h1, h2⟩ := trodAll_cons h
    exact ⟨a, b, Below.trod hlaid (ht t (by simp)).1 (ht t (by simp)).2 h1 hb (fun x hx => hlt x (by simp [hx])), args_below hlaid (fun t' h' => ht t' (by simp [h'])) h2 hb (fun x hx => hlt x (by simp [hx])), rfl⟩

theorem Try.laid : laidOutB Try.prog = true := by kernel_rfl
theorem Try.ownKnobs : ownKnob Try.prog.godebug = none := by kernel_rfl

/-- What a statement's row asks behind a call that returns true. -/
theorem post_true {f : Func} {s : ChangeSpec} {W W' : World} {args : Array Value} {ds gs : List (DataW H)} {before : List MemPlace}
    (hW : DataW.Whole enc Try.prog f.params.toList s.vars false W args.toList ds gs before) (hv : s.vars = []) (hp : ∀ t ∈ f.params.toList, Try.prog.readableRec t = true ∧ t < Try.prog.types.size)
    (hb : Below W.heap.size W W') (hrt : f.resultTypes = #[4]) (hs : s.fn H ds = { results := [.lit (.bool true)], args := ds }) :
    s.post enc Try.prog f false true false false W args (.bool true) W' := by
  have hlt := hW.lt
  have hW' := hW
  obtain ⟨p, q, hA, hV, rfl, hfz, hnd⟩ := hW'
  rw [hv] at hV
  obtain ⟨rfl, rfl⟩ := trodVars_none hV
  refine ⟨ds, [], _, [], p, [], hW, ?_, ?_, ?_, hb.frame _, fun h => by cases h⟩
  · rw [List.append_nil, hs, hrt]
    exact trodAll_mk1 (RowKit.shut_bool Try.underlying4 true)
  · rw [List.append_nil, hs]
    exact args_below Try.laid hp hA hb (fun x hx => hlt x (by simp [hx]))
  · rw [hv, List.append_nil, hs]
    rfl

end

/-- From the contract of a statement's function to its row: the reading of the arguments is the one thing left. -/
theorem lift_true {f : FuncId} {fn : Func} {s : ChangeSpec} {os : Os} (started : os.Started) {H : Type} {enc : TypeId × Value → H} (noInit : Try.checked.prog.inits.idxOf? f = none) (hfn : Try.checked.prog.funcs[f]? = some fn)
    (witness : ∃ (w : World) (tape : Tape) (i : Input), w.os = os ∧ (w.forCall tape i).Shaped Try.checked.prog ∧ i.vars = [] ∧ Input.okWide Try.checked.prog (w.forCall tape i) .any w.heap.size f i ∧
      s.pre6 enc Try.checked.prog fn [] false (w.forCall tape i).memory i.args ∧ (({} : Assume)).holds Try.checked.prog (lone (Frame.enter Try.checked.prog f i.args .normal) [] (w.forCall tape i)))
    (hv : s.vars = []) (hp : ∀ t ∈ fn.params.toList, Try.prog.readableRec t = true ∧ t < Try.prog.types.size) (hrt : fn.resultTypes = #[4])
    (hs : ∀ ds : List (DataW H), ds.length = fn.params.toList.length → s.fn H ds = { results := [.lit (.bool true)], args := ds })
    (contract : ∀ (W : World) (base : Nat) (args : Array Value) (ds : List (DataW H)) (ps : List MemPlace),
      (∀ (j : Nat) t v, fn.params[j]? = some t → args[j]? = some v → Value.okWide Try.prog W .any base t v) →
      DataW.TrodAll enc Try.prog W 0 (fun _ => true) true fn.params.toList args.toList ds ps → ∃ ivs, ACalls Try.prog f ivs (.v (.one (.bool true))) true ∧ All2 (gI 0 (fun _ => False) W false) ivs args.toList) :
    ReturnsInHanded {} Try.checked os f .any (s.pre6 enc Try.checked.prog fn [] false) (s.post enc Try.checked.prog fn false true false false) := by
  refine returnsInHanded_of_change (C := Try.checked) Try.ownKnobs started noInit hfn witness ?_
  intro W base args ds gs before hval hW _ _
  have hW2 := hW
  obtain ⟨p, q, hA, hV, rfl, _, _⟩ := hW2
  obtain ⟨ivs, hC, hI⟩ := contract W base args ds p hval hA
  have hlen : ds.length = fn.params.toList.length := by
    have : ∀ {ts : List TypeId} {vs : List Value} {ds : List (DataW H)} {ps : List MemPlace}, DataW.TrodAll enc Try.checked.prog W 0 (fun _ => true) true ts vs ds ps → ds.length = ts.length := by
      intro ts
      induction ts with
      | nil => intro vs ds ps h; obtain ⟨rfl, rfl, rfl⟩ := trodAll_nil h; rfl
      | cons t ts ih =>
        intro vs ds ps h
        obtain ⟨v, vs1, d, ds1, a, b, rfl, rfl, rfl, h1, h2⟩ := trodAll_cons h
        simp [ih h2]
    exact this hA
  refine (hC.2 W (fun _ => False) W.heap.size args.toList (Nat.le_refl _) (fun _ => rfl) (fun b h => h.elim) (hI.mono fun _ _ h => gI_any h)).mono ?_
  rintro e W' ⟨v, rfl, hr, hb⟩
  simp only [gR, gI, Rep] at hr
  subst hr
  exact ⟨_, rfl, post_true hW hv hp hb hrt (hs ds hlen)⟩

end Go.Proofs.Ytcaahmielncmpaa

namespace Go.Proofs.Ytcaahmielncmpaa
open Go

theorem words_app {w r : List Char} (h : w.all (fun c => decide (c ≠ Char.ofNat 32)) = true) : wordsSigns (w ++ Char.ofNat 32 :: r) = w :: wordsSigns r := by
  induction w with
  | nil => rfl
  | cons c w ih =>
    simp only [List.all_cons, Bool.and_eq_true, decide_eq_true_eq] at h
    have ih := ih h.2
    rw [List.cons_append]
    conv => lhs; unfold wordsSigns
    split
    · rename_i e; cases e
    · rename_i e; simp only [List.cons.injEq] at e; exact absurd e.1 h.1
    · rename_i c' r' _ e
      simp only [List.cons.injEq] at e
      obtain ⟨rfl, rfl⟩ := e
      rw [ih]

theorem behind_main {h s : List Char} {r : List (List Char)} (h1 : (h == "harness".toList) = true) (h2 : isSumSigns s = true) : behindMainWord (h :: s :: r) = r := by
  unfold behindMainWord
  dsimp only
  rw [h1, h2]
  rfl

theorem make_of {P : Program} {rest : List (List Char)} (h : behindMainWord (wordsSigns P.initOrder.toList) = [99, 117, 116].map Char.ofNat :: rest) : P.make = some .cut := by
  unfold Program.make
  rw [h]
  dsimp only
  rw [if_neg (by decide +kernel), if_pos (by
    rw [Bool.or_eq_true]
    left
    decide +kernel)]

theorem strip_cut : ∀ (os : List String) (rest : List (List Char)), os.all (fun o => !([99, 117, 116].map Char.ofNat == o.toList)) = true → stripLifts os ([99, 117, 116].map Char.ofNat :: rest) = ([], [99, 117, 116].map Char.ofNat :: rest)
  | [], rest, _ => rfl
  | o :: os, rest, h => by
    simp only [List.all_cons, Bool.and_eq_true, Bool.not_eq_true'] at h
    unfold stripLifts
    rw [if_neg (by rw [h.1]; simp)]
    exact strip_cut os rest h.2

theorem lifts_of {P : Program} {rest : List (List Char)} (h : behindMainWord (wordsSigns P.initOrder.toList) = [99, 117, 116].map Char.ofNat :: rest) : P.liftsFinal = false := by
  unfold Program.liftsFinal
  rw [h]
  have e : P.headLifts = [] := by
    unfold Program.headLifts
    rw [h]
    dsimp only
    rw [strip_cut liftWords rest (by decide +kernel)]
    split <;> rfl
  rw [e]
  simp only [List.contains_nil, Bool.or_false, List.head?_cons]
  rw [show (some ([99, 117, 116].map Char.ofNat) == some "carried".toList) = false by decide +kernel]
  rfl

theorem enter_of {P : Program} {rest : List (List Char)} (h : behindMainWord (wordsSigns P.initOrder.toList) = [99, 117, 116].map Char.ofNat :: rest) (h1 : P.laysLater = false) (h2 : P.bearsReflect = false) (h3 : P.doorFits [] = true) : P.mayEnter = true := by
  unfold Program.mayEnter
  rw [h]
  dsimp only
  rw [strip_cut liftWords rest (by decide +kernel), h1, h2, h3]
  simp only [Bool.or_eq_true]
  right
  simp only [List.head?_cons, List.contains_nil, Bool.not_false, Bool.or_true, Bool.and_true, Bool.true_and, Bool.false_or]
  decide +kernel

/-- The closed facts of a row over this program, one by one. -/
theorem joined_of {P : Program} {f : FuncId} {fn : Func} {s : ChangeSpec} {c : OpenClaim} (hs : s.vars = [])
    (a1 : c.wf (OpenSpec.ofChange s) = true) (a2 : laidOutB P = true) (a3 : mapsRowed P = true) (a4 : fn.params.all (P.readableRec ·) = true) (a5 : namedTie P c.named [] = true)
    (a6 : (c.stops == []) = true) (a7 : (P.stops == []) = true) (a8 : (c.knobs == []) = true) (a9 : (P.stopKnobs == []) = true)
    (b1 : (c.inPlace == P.inPlace f) = true) (b2 : (c.unfollowed == P.unfollowed f) = true) (b3 : (c.recurses == P.recurses f) = true) (b4 : (c.named == P.varsNamed f) = true)
    (c1 : (c.maps == fn.params.toList.any (P.mapsRec ·)) = true) (c2 : (c.ifaces == fn.params.toList.any (P.ifacesRec ·)) = true) (c3 : (c.mapsOut == P.mapsAmong fn.resultTypes.toList) = true)
    (c4 : (c.loops == fn.params.toList.any (P.loopsFrom ·)) = true) (c5 : (c.wideKeys == (fn.params.toList ++ fn.resultTypes.toList).any (P.wideKeysFrom ·)) = true)
    (d1 : fn.resultTypes.all (fun t => P.readableRec t && decide (t < P.types.size)) = true) (d2 : (c.ifacesOut == fn.resultTypes.toList.any (P.ifacesRec ·)) = true) (d3 : (c.loopsOut == fn.resultTypes.toList.any (P.loopsFrom ·)) = true) (d4 : (c.plainKeys == P.plainKeys) = true)
    (d5 : c.shortTexts.isNone = true) (d6 : P.stopsHeard = true) (d7 : P.mayEnter = true) (d8 : c.lifted = P.liftsFinal) (d9 : P.make = some c.make)
    (e1 : c.domain.isEmpty = true) (e2 : c.kinds = []) (e3 : (c.pinned == c.pinnedBy) = true)
    (e4 : (c.veiled == (fn.params.toList ++ fn.resultTypes.toList).any (P.veiledRec ·)) = true) (e5 : c.veiledFits P fn.params.toList (fn.params.toList ++ fn.resultTypes.toList) = true) :
    joinedFacts P f fn s c = true := by
  have hv : s.plain.varTypes P = [] := by
    unfold DataSpec.varTypes ChangeSpec.plain
    simp [hs]
  unfold joinedFacts
  rw [hv, hs]
  simp only [List.append_nil, a1, a2, a3, a4, a5, a6, a7, a8, a9, b1, b2, b3, b4, c1, c2, c3, c4, c5, d1, d2, d3, d4, d5, d6, d7, d8, d9, e1, e2, e3, e4, e5, List.all_nil, Bool.and_self, Bool.and_true, Bool.true_and, beq_self_eq_true, if_true]
end Go.Proofs.Ytcaahmielncmpaa

namespace Go.Proofs.Ytcaahmielncmpaa
open Go Go.Proofs.Ytcaahmielncmpaa
def Try.restSigns : List Nat := [97, 116, 32, 116, 114, 97, 110, 115, 104, 105, 112, 47, 116, 114, 97, 110, 115, 104, 105, 112, 108, 97, 119, 48, 56, 46, 69, 114, 97, 115, 101, 69, 120, 97, 99, 116, 32, 116, 114, 97, 110, 115, 104, 105, 112, 47, 116, 114, 97, 110, 115, 104, 105, 112, 108, 97, 119, 48, 54, 46, 83, 116, 114, 105, 112, 69, 120, 97, 99, 116, 32, 116, 114, 97, 110, 115, 104, 105, 112, 47, 116, 114, 97, 110, 115, 104, 105, 112, 108, 97, 119, 48, 53, 46, 76, 105, 102, 116, 69, 120, 97, 99, 116, 32, 116, 114, 97, 110, 115, 104, 105, 112, 47, 116, 114, 97, 110, 115, 104, 105, 112, 108, 97, 119, 48, 55, 46, 80, 117, 116, 69, 120, 97, 99, 116, 32, 116, 114, 97, 110, 115, 104, 105, 112, 47, 116, 114, 97, 110, 115, 104, 105, 112, 108, 97, 119, 49, 49, 46, 67, 116, 120, 69, 120, 97, 99, 116, 32, 116, 114, 97, 110, 115, 104, 105, 112, 47, 116, 114, 97, 110, 115, 104, 105, 112, 108, 97, 119, 49, 49, 46, 67, 116, 120, 70, 111, 114, 109, 115, 32, 116, 114, 97, 110, 115, 104, 105, 112, 47, 116, 114, 97, 110, 115, 104, 105, 112, 108, 97, 119, 49, 49, 46, 67, 116, 120, 65, 100, 100, 115, 32, 116, 114, 97, 110, 115, 104, 105, 112, 47, 116, 114, 97, 110, 115, 104, 105, 112, 108, 97, 119, 49, 49, 46, 67, 116, 120, 83, 97, 109, 101, 32, 116, 114, 97, 110, 115, 104, 105, 112, 47, 116, 114, 97, 110, 115, 104, 105, 112, 108, 97, 119, 49, 53, 46, 80, 114, 101, 109, 105, 115, 101, 69, 120, 97, 99, 116, 32, 116, 114, 97, 110, 115, 104, 105, 112, 47, 116, 114, 97, 110, 115, 104, 105, 112, 108, 97, 119, 49, 53, 46, 82, 117, 108, 101, 82, 105, 103, 104, 116, 32, 116, 114, 97, 110, 115, 104, 105, 112, 47, 116, 114, 97, 110, 115, 104, 105, 112, 108, 97, 119, 49, 53, 46, 82, 117, 108, 101, 84, 117, 114, 110, 101, 100, 32, 116, 114, 97, 110, 115, 104, 105, 112, 47, 116, 114, 97, 110, 115, 104, 105, 112, 108, 97, 119, 49, 53, 46, 82, 117, 108, 101, 76, 101, 118, 101, 108, 115, 32, 116, 114, 97, 110, 115, 104, 105, 112, 47, 116, 114, 97, 110, 115, 104, 105, 112, 108, 97, 119, 49, 54, 46, 67, 104, 101, 99, 107, 77, 111, 114, 101, 32, 116, 114, 97, 110, 115, 104, 105, 112, 47, 116, 114, 97, 110, 115, 104, 105, 112, 108, 97, 119, 49, 54, 46, 67, 104, 101, 99, 107, 80, 97, 114, 116, 115, 32, 116, 114, 97, 110, 115, 104, 105, 112, 47, 116, 114, 97, 110, 115, 104, 105, 112, 108, 97, 119, 49, 54, 46, 67, 104, 101, 99, 107, 76, 101, 118, 101, 108, 115, 32, 116, 114, 97, 110, 115, 104, 105, 112, 47, 116, 114, 97, 110, 115, 104, 105, 112, 108, 97, 119, 49, 54, 46, 67, 104, 101, 99, 107, 70, 97, 117, 108, 116, 115]
def Try.sumSigns : List Nat := [51, 53, 100, 50, 48, 56, 53, 56, 57, 98, 53, 100, 48, 50, 49, 51, 102, 97, 100, 49, 48, 56, 97, 99, 99, 55, 55, 53, 98, 56, 57, 52, 102, 54, 98, 53, 53, 48, 55, 49, 48, 54, 54, 54, 54, 52, 101, 97, 54, 49, 99, 55, 56, 56, 54, 57, 50, 55, 99, 53, 101, 99, 101, 54]
theorem Try.initWord : Try.prog.initOrder = String.ofList ([104, 97, 114, 110, 101, 115, 115].map Char.ofNat ++ Char.ofNat 32 :: (Try.sumSigns.map Char.ofNat ++ Char.ofNat 32 :: ([99, 117, 116].map Char.ofNat ++ Char.ofNat 32 :: Try.restSigns.map Char.ofNat))) := by kernel_rfl
theorem Try.headWords : behindMainWord (wordsSigns Try.prog.initOrder.toList) = [99, 117, 116].map Char.ofNat :: wordsSigns (Try.restSigns.map Char.ofNat) := by
  rw [Try.initWord, String.toList_ofList, words_app (by decide), words_app (by decide +kernel), words_app (by decide)]
  exact behind_main (by decide +kernel) (by decide +kernel)
theorem Try.makes : Try.prog.make = some .cut := make_of Try.headWords
theorem Try.lifts : Try.prog.liftsFinal = false := lifts_of Try.headWords
theorem Try.enters : Try.prog.mayEnter = true := enter_of Try.headWords (by kernel_rfl) (by kernel_rfl) (by kernel_rfl)
theorem Try.mapsRows : mapsRowed Try.prog = true := by kernel_rfl
theorem Try.noStops : (Try.prog.stops == []) = true := by kernel_rfl
theorem Try.noStopKnobs : (Try.prog.stopKnobs == []) = true := by kernel_rfl
theorem Try.plainKeysAre : (true == Try.prog.plainKeys) = true := by kernel_rfl
theorem Try.heard : Try.prog.stopsHeard = true := by kernel_rfl

end Go.Proofs.Ytcaahmielncmpaa
