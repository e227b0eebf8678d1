/-
  Arguments read as trees, and a row follows from the contract of its function, which returns true.
-/
import Derived.Test.YtcaahmielncmpaaGreatTypedA
import Derived.Laws.Cover2
import Derived.Test.YtcaahmielncmpaaGreatProg
import Derived.Test.YtcaahmielncmpaaGreatRows
set_option linter.unusedSimpArgs false
set_option linter.unusedVariables false
namespace Go.Proofs.YtcaahmielncmpaaGreat
open Go Go.RowKit Go.ChangeShapes Go.WideShapes
set_option maxRecDepth 100000

theorem Rep.loose {w : World} {c : C} {v : Value} (h : Rep (okR w) w c v) : Rep (okA 0 (fun _ => False) w false) w c v :=
  h.mono (fun _ _ h => ⟨h, fun h => h, fun h => by cases h⟩) (fun _ _ _ _ _ h => h)

section
variable {H : Type} {enc : TypeId × Value → H} {w : World} {base : Nat} {sp : Nat → Bool} {hd : Bool}

theorem read_dv : ∀ (fuel : Nat) (cs : List Value) (x : DataW H × List MemPlace), DataW.trod enc Tryz.prog w base sp hd fuel 41 cs = some x → ∃ d : Dv, All2 (Rep (okR w) w) d.cells cs ∧ d.Ok := by
  intro fuel
  induction fuel using Nat.strongRecOn with
  | _ fuel ih =>
    intro cs x h
    obtain ⟨xs, n, rfl, _, hl, hlen, hf⟩ := DataW.trod_struct Tryz.underlying41 h
    rw [show Tryz.prog.cellsOf 41 = 3 by kernel_rfl] at hl
    match cs, hl with
    | [c0, c1, c2], _ =>
      match xs, hlen with
      | [x0, x1, x2], _ =>
        have h0 : DataW.trod enc Tryz.prog w base sp hd n 3 ((List.drop 0 [c0, c1, c2]).take (Tryz.prog.cellsOf 3)) = ([x0, x1, x2] : List (DataW H × List MemPlace))[0]? := hf 0 _ rfl
        have h1 : DataW.trod enc Tryz.prog w base sp hd n 3 ((List.drop 1 [c0, c1, c2]).take (Tryz.prog.cellsOf 3)) = ([x0, x1, x2] : List (DataW H × List MemPlace))[1]? := hf 1 _ rfl
        have h2 : DataW.trod enc Tryz.prog w base sp hd n 39 ((List.drop 2 [c0, c1, c2]).take (Tryz.prog.cellsOf 39)) = ([x0, x1, x2] : List (DataW H × List MemPlace))[2]? := hf 2 _ rfl
        simp only [show Tryz.prog.cellsOf 3 = 1 by kernel_rfl, show Tryz.prog.cellsOf 39 = 1 by kernel_rfl, List.drop_zero, List.drop_succ_cons, List.take_succ_cons, List.take_zero, List.getElem?_cons_zero, List.getElem?_cons_succ] at h0 h1 h2
        obtain ⟨r, e0, w0⟩ := read_int Tryz.underlying3 h0
        obtain ⟨i, e1, w1⟩ := read_int Tryz.underlying3 h1
        simp only [List.cons.injEq, and_true] at e0 e1
        subst e0; subst e1
        match n, h2, ih with
        | 0, h2, _ => simp [DataW.trod] at h2
        | n + 1, h2, ih =>
          obtain ⟨ks, v, e2, hr, hk⟩ := read_rows Dv.cells Dv.Ok Tryz.underlying39 (by kernel_rfl) (by omega) Dv.cells_length (fun cs x h => ih n (by omega) cs x h) h2
          simp only [List.cons.injEq, and_true] at e2
          subst e2
          refine ⟨.mk r i ks, ?_, ?_⟩
          · simp only [Dv.cells, Dv.rows_eq]
            exact .cons (by simp only [Rep]) (.cons (by simp only [Rep]) (.cons hr .nil))
          · simp only [Dv.Ok, Dv.Oks_iff]
            exact ⟨w0, w1, hk⟩

theorem read_fl (fuel : Nat) (cs : List Value) (x : DataW H × List MemPlace) (h : DataW.trod enc Tryz.prog w base sp hd fuel 52 cs = some x) : ∃ d : Fl, All2 (Rep (okR w) w) (flC d) cs ∧ True := by
  obtain ⟨xs, n, rfl, _, hl, hlen, hf⟩ := DataW.trod_struct Tryz.underlying52 h
  rw [show Tryz.prog.cellsOf 52 = 4 by kernel_rfl] at hl
  match cs, hl with
  | [c0, c1, c2, c3], _ =>
    match xs, hlen with
    | [x0, x1], _ =>
    have h0 : DataW.trod enc Tryz.prog w base sp hd n 39 ((List.drop 0 [c0, c1, c2, c3]).take (Tryz.prog.cellsOf 39)) = ([x0, x1] : List (DataW H × List MemPlace))[0]? := hf 0 _ rfl
    have h1 : DataW.trod enc Tryz.prog w base sp hd n 41 ((List.drop 1 [c0, c1, c2, c3]).take (Tryz.prog.cellsOf 41)) = ([x0, x1] : List (DataW H × List MemPlace))[1]? := hf 1 _ rfl
    simp only [show Tryz.prog.cellsOf 39 = 1 by kernel_rfl, show Tryz.prog.cellsOf 41 = 3 by kernel_rfl, List.drop_zero, List.drop_succ_cons, List.take_succ_cons, List.take_zero, List.getElem?_cons_zero, List.getElem?_cons_succ] at h0 h1
    obtain ⟨dd, q1, _⟩ := read_dv n _ _ h1
    match n, h0 with
    | 0, h0 => simp [DataW.trod] at h0
    | n + 1, h0 =>
      obtain ⟨ks, v, e2, hr, _⟩ := read_rows Dv.cells Dv.Ok Tryz.underlying39 (by kernel_rfl) (by omega) Dv.cells_length (fun cs x h => read_dv n cs x h) h0
      simp only [List.cons.injEq, and_true] at e2
      subst e2
      refine ⟨⟨ks, dd⟩, ?_, trivial⟩
      unfold flC
      rw [Dv.rows_eq]
      exact .cons hr q1
variable {r : Reach} {b0 : Nat} {v : Value} {d : DataW H} {ps : List MemPlace}

theorem arg_flt (hval : Value.okWide Tryz.prog w r b0 42 v) : ∃ n : Nat, gI 0 (fun _ => False) w false (.one (.flt n)) v := by
  obtain ⟨n, rfl⟩ := okWide_float Tryz.underlying42 hval
  exact ⟨n, by simp only [gI, Rep]⟩
theorem arg_st {t : Nat} {fs : Array Field} (ht : Tryz.prog.underlying t = some (.struct fs)) {α : Type} (f : α → List C) (g : α → Prop) (ih : ∀ fuel cs x, DataW.trod enc Tryz.prog w base sp hd fuel t cs = some x → ∃ a, All2 (Rep (okR w) w) (f a) cs ∧ g a)
    (hval : Value.okWide Tryz.prog w r b0 t v) (h : DataW.Trod enc Tryz.prog w base sp hd t v d ps) : ∃ a : α, gI 0 (fun _ => False) w false (.agg (f a)) v ∧ g a := by
  obtain ⟨cs, rfl, _⟩ := okWide_struct ht hval
  obtain ⟨fuel, hf⟩ := h
  obtain ⟨a, h1, h2⟩ := ih fuel _ _ hf
  refine ⟨a, ⟨cs.toList, by simp, ?_⟩, h2⟩
  have h3 : All2 (Rep (okR w) w) (f a) cs.toList := by simpa [Value.cells] using h1
  exact h3.mono fun _ _ h => Rep.loose h
theorem arg_fl (hval : Value.okWide Tryz.prog w r b0 52 v) (h : DataW.Trod enc Tryz.prog w base sp hd 52 v d ps) : ∃ d : Fl, gI 0 (fun _ => False) w false (.agg (flC d)) v ∧ True :=
  arg_st Tryz.underlying52 flC (fun _ => True) read_fl hval h
/-- The arguments read behind the call as before. -/
theorem args_below {P : Program} (hlaid : laidOutB P = true) : ∀ {ts : List TypeId} {vs : List Value} {ds : List (DataW H)} {ps : List MemPlace} {W W' : World}, (∀ t ∈ ts, P.readableRec t = true ∧ t < P.types.size) →
    DataW.TrodAll enc P W 0 (fun _ => true) true ts vs ds ps → Below W.heap.size W W' → (∀ x ∈ ps, x.block < W.heap.size) → DataW.TrodAll enc P W' 0 (fun b => decide (b < W.heap.size)) true ts vs ds ps
  | [], vs, ds, ps, W, W', _, h, _, _ => by
    obtain ⟨rfl, rfl, rfl⟩ := trodAll_nil h
    exact trodAll_mk0
  | t :: ts, vs, ds, ps, W, W', ht, h, hb, hlt => by
    obtain ⟨v, vs1, d, ds1, a, b, rfl, rfl, rfl, h1, h2⟩ := trodAll_cons h
    exact ⟨a, b, Below.trod hlaid (ht t (by simp)).1 (ht t (by simp)).2 h1 hb (fun x hx => hlt x (by simp [hx])), args_below hlaid (fun t' h' => ht t' (by simp [h'])) h2 hb (fun x hx => hlt x (by simp [hx])), rfl⟩

theorem Tryz.laid : laidOutB Tryz.prog = true := by kernel_rfl
theorem Tryz.ownKnobs : ownKnob Tryz.prog.godebug = none := by kernel_rfl

/-- What a statement's row asks behind a call that returns true. -/
theorem post_true {f : Func} {s : ChangeSpec} {W W' : World} {args : Array Value} {ds gs : List (DataW H)} {before : List MemPlace}
    (hW : DataW.Whole enc Tryz.prog f.params.toList s.vars false W args.toList ds gs before) (hv : s.vars = []) (hp : ∀ t ∈ f.params.toList, Tryz.prog.readableRec t = true ∧ t < Tryz.prog.types.size)
    (hb : Below W.heap.size W W') (hrt : f.resultTypes = #[4]) (hs : s.fn H ds = { results := [.lit (.bool true)], args := ds }) :
    s.post enc Tryz.prog f false true false false W args (.bool true) W' := by
  have hlt := hW.lt
  have hW' := hW
  obtain ⟨p, q, hA, hV, rfl, hfz, hnd⟩ := hW'
  rw [hv] at hV
  obtain ⟨rfl, rfl⟩ := trodVars_none hV
  refine ⟨ds, [], _, [], p, [], hW, ?_, ?_, ?_, hb.frame _, fun h => by cases h⟩
  · rw [List.append_nil, hs, hrt]
    exact trodAll_mk1 (RowKit.shut_bool Tryz.underlying4 true)
  · rw [List.append_nil, hs]
    exact args_below Tryz.laid hp hA hb (fun x hx => hlt x (by simp [hx]))
  · rw [hv, List.append_nil, hs]
    rfl

end

/-- From the contract of a statement's function to its row: the reading of the arguments is the one thing left. -/
theorem lift_true {f : FuncId} {fn : Func} {s : ChangeSpec} {os : Os} (started : os.Started) {H : Type} {enc : TypeId × Value → H} (noInit : Tryz.checked.prog.inits.idxOf? f = none) (hfn : Tryz.checked.prog.funcs[f]? = some fn)
    (witness : ∃ (w : World) (tape : Tape) (i : Input), w.os = os ∧ (w.forCall tape i).Shaped Tryz.checked.prog ∧ i.vars = [] ∧ Input.okWide Tryz.checked.prog (w.forCall tape i) .any w.heap.size f i ∧
      s.pre6 enc Tryz.checked.prog fn [] false (w.forCall tape i).memory i.args ∧ (({} : Assume)).holds Tryz.checked.prog (lone (Frame.enter Tryz.checked.prog f i.args .normal) [] (w.forCall tape i)))
    (hv : s.vars = []) (hp : ∀ t ∈ fn.params.toList, Tryz.prog.readableRec t = true ∧ t < Tryz.prog.types.size) (hrt : fn.resultTypes = #[4])
    (hs : ∀ ds : List (DataW H), ds.length = fn.params.toList.length → s.fn H ds = { results := [.lit (.bool true)], args := ds })
    (contract : ∀ (W : World) (base : Nat) (args : Array Value) (ds : List (DataW H)) (ps : List MemPlace),
      (∀ (j : Nat) t v, fn.params[j]? = some t → args[j]? = some v → Value.okWide Tryz.prog W .any base t v) →
      DataW.TrodAll enc Tryz.prog W 0 (fun _ => true) true fn.params.toList args.toList ds ps → ∃ ivs, ACalls Tryz.prog f ivs (.v (.one (.bool true))) true ∧ All2 (gI 0 (fun _ => False) W false) ivs args.toList) :
    ReturnsInHanded {} Tryz.checked os f .any (s.pre6 enc Tryz.checked.prog fn [] false) (s.post enc Tryz.checked.prog fn false true false false) := by
  refine returnsInHanded_of_change (C := Tryz.checked) Tryz.ownKnobs started noInit hfn witness ?_
  intro W base args ds gs before hval hW _ _
  have hW2 := hW
  obtain ⟨p, q, hA, hV, rfl, _, _⟩ := hW2
  obtain ⟨ivs, hC, hI⟩ := contract W base args ds p hval hA
  have hlen : ds.length = fn.params.toList.length := by
    have : ∀ {ts : List TypeId} {vs : List Value} {ds : List (DataW H)} {ps : List MemPlace}, DataW.TrodAll enc Tryz.checked.prog W 0 (fun _ => true) true ts vs ds ps → ds.length = ts.length := by
      intro ts
      induction ts with
      | nil => intro vs ds ps h; obtain ⟨rfl, rfl, rfl⟩ := trodAll_nil h; rfl
      | cons t ts ih =>
        intro vs ds ps h
        obtain ⟨v, vs1, d, ds1, a, b, rfl, rfl, rfl, h1, h2⟩ := trodAll_cons h
        simp [ih h2]
    exact this hA
  refine (hC.2 W (fun _ => False) W.heap.size args.toList (Nat.le_refl _) (fun _ => rfl) (fun b h => h.elim) (hI.mono fun _ _ h => gI_any h)).mono ?_
  rintro e W' ⟨v, rfl, hr, hb⟩
  simp only [gR, gI, Rep] at hr
  subst hr
  exact ⟨_, rfl, post_true hW hv hp hb hrt (hs ds hlen)⟩

end Go.Proofs.YtcaahmielncmpaaGreat

namespace Go.Proofs.YtcaahmielncmpaaGreat
open Go

theorem words_app {w r : List Char} (h : w.all (fun c => decide (c ≠ Char.ofNat 32)) = true) : wordsSigns (w ++ Char.ofNat 32 :: r) = w :: wordsSigns r := by
  induction w with
  | nil => rfl
  | cons c w ih =>
    simp only [List.all_cons, Bool.and_eq_true, decide_eq_true_eq] at h
    have ih := ih h.2
    rw [List.cons_append]
    conv => lhs; unfold wordsSigns
    split
    · rename_i e; cases e
    · rename_i e; simp only [List.cons.injEq] at e; exact absurd e.1 h.1
    · rename_i c' r' _ e
      simp only [List.cons.injEq] at e
      obtain ⟨rfl, rfl⟩ := e
      rw [ih]

theorem behind_main {h s : List Char} {r : List (List Char)} (h1 : (h == "harness".toList) = true) (h2 : isSumSigns s = true) : behindMainWord (h :: s :: r) = r := by
  unfold behindMainWord
  dsimp only
  rw [h1, h2]
  rfl

theorem make_of {P : Program} {rest : List (List Char)} (h : behindMainWord (wordsSigns P.initOrder.toList) = [99, 117, 116].map Char.ofNat :: rest) : P.make = some .cut := by
  unfold Program.make
  rw [h]
  dsimp only
  rw [if_neg (by decide +kernel), if_pos (by
    rw [Bool.or_eq_true]
    left
    decide +kernel)]

theorem strip_cut : ∀ (os : List String) (rest : List (List Char)), os.all (fun o => !([99, 117, 116].map Char.ofNat == o.toList)) = true → stripLifts os ([99, 117, 116].map Char.ofNat :: rest) = ([], [99, 117, 116].map Char.ofNat :: rest)
  | [], rest, _ => rfl
  | o :: os, rest, h => by
    simp only [List.all_cons, Bool.and_eq_true, Bool.not_eq_true'] at h
    unfold stripLifts
    rw [if_neg (by rw [h.1]; simp)]
    exact strip_cut os rest h.2

theorem lifts_of {P : Program} {rest : List (List Char)} (h : behindMainWord (wordsSigns P.initOrder.toList) = [99, 117, 116].map Char.ofNat :: rest) : P.liftsFinal = false := by
  unfold Program.liftsFinal
  rw [h]
  have e : P.headLifts = [] := by
    unfold Program.headLifts
    rw [h]
    dsimp only
    rw [strip_cut liftWords rest (by decide +kernel)]
    split <;> rfl
  rw [e]
  simp only [List.contains_nil, Bool.or_false, List.head?_cons]
  rw [show (some ([99, 117, 116].map Char.ofNat) == some "carried".toList) = false by decide +kernel]
  rfl

theorem enter_of {P : Program} {rest : List (List Char)} (h : behindMainWord (wordsSigns P.initOrder.toList) = [99, 117, 116].map Char.ofNat :: rest) (h1 : P.laysLater = false) (h2 : P.bearsReflect = false) (h3 : P.doorFits [] = true) : P.mayEnter = true := by
  unfold Program.mayEnter
  rw [h]
  dsimp only
  rw [strip_cut liftWords rest (by decide +kernel), h1, h2, h3]
  simp only [Bool.or_eq_true]
  right
  simp only [List.head?_cons, List.contains_nil, Bool.not_false, Bool.or_true, Bool.and_true, Bool.true_and, Bool.false_or]
  decide +kernel

/-- The closed facts of a row over this program, one by one. -/
theorem joined_of {P : Program} {f : FuncId} {fn : Func} {s : ChangeSpec} {c : OpenClaim} (hs : s.vars = [])
    (a1 : c.wf (OpenSpec.ofChange s) = true) (a2 : laidOutB P = true) (a3 : mapsRowed P = true) (a4 : fn.params.all (P.readableRec ·) = true) (a5 : namedTie P c.named [] = true)
    (a6 : (c.stops == []) = true) (a7 : (P.stops == []) = true) (a8 : (c.knobs == []) = true) (a9 : (P.stopKnobs == []) = true)
    (b1 : (c.inPlace == P.inPlace f) = true) (b2 : (c.unfollowed == P.unfollowed f) = true) (b3 : (c.recurses == P.recurses f) = true) (b4 : (c.named == P.varsNamed f) = true)
    (c1 : (c.maps == fn.params.toList.any (P.mapsRec ·)) = true) (c2 : (c.ifaces == fn.params.toList.any (P.ifacesRec ·)) = true) (c3 : (c.mapsOut == P.mapsAmong fn.resultTypes.toList) = true)
    (c4 : (c.loops == fn.params.toList.any (P.loopsFrom ·)) = true) (c5 : (c.wideKeys == (fn.params.toList ++ fn.resultTypes.toList).any (P.wideKeysFrom ·)) = true)
    (d1 : fn.resultTypes.all (fun t => P.readableRec t && decide (t < P.types.size)) = true) (d2 : (c.ifacesOut == fn.resultTypes.toList.any (P.ifacesRec ·)) = true) (d3 : (c.loopsOut == fn.resultTypes.toList.any (P.loopsFrom ·)) = true) (d4 : (c.plainKeys == P.plainKeys) = true)
    (d5 : c.shortTexts.isNone = true) (d6 : P.stopsHeard = true) (d7 : P.mayEnter = true) (d8 : c.lifted = P.liftsFinal) (d9 : P.make = some c.make)
    (e1 : c.domain.isEmpty = true) (e2 : c.kinds = []) (e3 : (c.pinned == c.pinnedBy) = true)
    (e4 : (c.veiled == (fn.params.toList ++ fn.resultTypes.toList).any (P.veiledRec ·)) = true) (e5 : c.veiledFits P fn.params.toList (fn.params.toList ++ fn.resultTypes.toList) = true) :
    joinedFacts P f fn s c = true := by
  have hv : s.plain.varTypes P = [] := by
    unfold DataSpec.varTypes ChangeSpec.plain
    simp [hs]
  unfold joinedFacts
  rw [hv, hs]
  simp only [List.append_nil, a1, a2, a3, a4, a5, a6, a7, a8, a9, b1, b2, b3, b4, c1, c2, c3, c4, c5, d1, d2, d3, d4, d5, d6, d7, d8, d9, e1, e2, e3, e4, e5, List.all_nil, Bool.and_self, Bool.and_true, Bool.true_and, beq_self_eq_true, if_true]
end Go.Proofs.YtcaahmielncmpaaGreat

namespace Go.Proofs.YtcaahmielncmpaaGreat
open Go Go.Proofs.YtcaahmielncmpaaGreat
def Tryz.restSigns : List Nat := [97, 116, 32, 116, 114, 97, 110, 115, 104, 105, 112, 47, 116, 114, 97, 110, 115, 104, 105, 112, 108, 97, 119, 49, 53, 46, 82, 117, 108, 101, 69, 120, 97, 99, 116, 32, 116, 114, 97, 110, 115, 104, 105, 112, 47, 116, 114, 97, 110, 115, 104, 105, 112, 108, 97, 119, 49, 54, 46, 67, 104, 101, 99, 107, 69, 120, 97, 99, 116, 32, 116, 114, 97, 110, 115, 104, 105, 112, 47, 116, 114, 97, 110, 115, 104, 105, 112, 108, 97, 119, 49, 54, 46, 67, 104, 101, 99, 107, 70, 105, 108, 101, 115]
def Tryz.sumSigns : List Nat := [56, 99, 97, 97, 98, 48, 102, 54, 99, 49, 101, 52, 52, 55, 97, 101, 101, 101, 57, 52, 102, 56, 99, 56, 99, 53, 50, 50, 53, 101, 102, 52, 51, 50, 50, 97, 51, 52, 97, 101, 55, 53, 55, 101, 55, 56, 98, 54, 98, 56, 52, 100, 55, 51, 97, 54, 56, 49, 98, 97, 55, 53, 48, 99]
theorem Tryz.initWord : Tryz.prog.initOrder = String.ofList ([104, 97, 114, 110, 101, 115, 115].map Char.ofNat ++ Char.ofNat 32 :: (Tryz.sumSigns.map Char.ofNat ++ Char.ofNat 32 :: ([99, 117, 116].map Char.ofNat ++ Char.ofNat 32 :: Tryz.restSigns.map Char.ofNat))) := by kernel_rfl
theorem Tryz.headWords : behindMainWord (wordsSigns Tryz.prog.initOrder.toList) = [99, 117, 116].map Char.ofNat :: wordsSigns (Tryz.restSigns.map Char.ofNat) := by
  rw [Tryz.initWord, String.toList_ofList, words_app (by decide), words_app (by decide +kernel), words_app (by decide)]
  exact behind_main (by decide +kernel) (by decide +kernel)
theorem Tryz.makes : Tryz.prog.make = some .cut := make_of Tryz.headWords
theorem Tryz.lifts : Tryz.prog.liftsFinal = false := lifts_of Tryz.headWords
theorem Tryz.enters : Tryz.prog.mayEnter = true := enter_of Tryz.headWords (by kernel_rfl) (by kernel_rfl) (by kernel_rfl)
theorem Tryz.mapsRows : mapsRowed Tryz.prog = true := by kernel_rfl
theorem Tryz.noStops : (Tryz.prog.stops == []) = true := by kernel_rfl
theorem Tryz.noStopKnobs : (Tryz.prog.stopKnobs == []) = true := by kernel_rfl
theorem Tryz.plainKeysAre : (true == Tryz.prog.plainKeys) = true := by kernel_rfl
theorem Tryz.heard : Tryz.prog.stopsHeard = true := by kernel_rfl
end Go.Proofs.YtcaahmielncmpaaGreat
