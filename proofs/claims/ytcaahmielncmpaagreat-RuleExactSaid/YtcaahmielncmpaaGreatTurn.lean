/-
  The call that turns new data turns nothing else.
-/
import Derived.Test.YtcaahmielncmpaaGreatPlainA
set_option linter.unusedSimpArgs false
set_option linter.unusedVariables false
namespace Go.Proofs.YtcaahmielncmpaaGreat
open Go Go.RowKit

/-! ## The call that turns what it is given: concrete steps -/
theorem put_size' (a : Act) (d : Nat) (v : Value) : (a.put (some d) v).tmps.size = a.tmps.size := by simp [Act.put]
theorem put_defers' (a : Act) (d : Option Nat) (v : Value) : (a.put d v).defers = a.defers := by cases d <;> rfl
theorem ev_put' {a : Act} {d t : Nat} {v : Value} (h : d < a.tmps.size) : (a.put (some d) v).eval (.tmp t) = if t = d then v else a.eval (.tmp t) := by
  show (a.tmps.setIfInBounds d v).getD t Go.undef = if t = d then v else a.tmps.getD t Go.undef
  by_cases e : t = d
  · subst e
    rw [if_pos rfl, Array.getD_eq_getD_getElem?, Array.getElem?_setIfInBounds_self_of_lt h]; rfl
  · rw [if_neg e, Array.getD_eq_getD_getElem?, Array.getElem?_setIfInBounds_ne (Ne.symm e), Array.getD_eq_getD_getElem?]

def sig (o : Oper) : Option Nat × Op × Option (Nat × Bool) := (o.dst, o.op, o.guard)
section
variable {P : Program} {ops : Array Oper} {Q : Exit → Act → World → Prop} {i : Nat} {rest : List Nat} {a : Act} {w w' : World}
theorem step_sig {d : Option Nat} {op : Op} {v : Value} (h : (ops[i]?).map sig = some (d, op, none)) (hr : ∀ o : Oper, o.op = op → (execOp a.eval o).run P w = .ok (.value v) w') (k : wpOps P ops Q rest (a.put d v) w') : wpOps P ops Q (i :: rest) a w := by
  obtain ⟨o, ho, hs⟩ := Option.map_eq_some_iff.1 h
  simp only [sig, Prod.mk.injEq] at hs
  obtain ⟨rfl, h2, h3⟩ := hs
  rw [wpOps_cons]
  unfold wpOp
  simp only [ho]
  rw [if_pos (by unfold Region.wanted; rw [h3])]
  left
  unfold Oper.wp
  rw [hr o h2]
  exact k
theorem step_sig_skip {op : Op} (h : (ops[i]?).map sig = some (none, op, none)) (hr : ∀ o : Oper, o.op = op → (execOp a.eval o).run P w = .ok .skip w') (k : wpOps P ops Q rest a w') : wpOps P ops Q (i :: rest) a w := by
  obtain ⟨o, ho, hs⟩ := Option.map_eq_some_iff.1 h
  simp only [sig, Prod.mk.injEq] at hs
  obtain ⟨h1, h2, h3⟩ := hs
  rw [wpOps_cons]
  unfold wpOp
  simp only [ho]
  rw [if_pos (by unfold Region.wanted; rw [h3])]
  left
  unfold Oper.wp
  rw [hr o h2]
  simp only [Oper.upon, h1]
  exact k
theorem step_sig_call {d : Option Nat} {f : FuncId} {x : Operand} {ts : Array TypeId} (h : (ops[i]?).map sig = some (d, .call { callee := .value (.func f), args := #[x], argTypes := ts }, none)) (hc : Callable P f) {R : Ending → World → Prop}
    (hR : Calls P f #[a.eval x] w R) (k : ∀ e w', R e w' → ∃ u, e = .returned u ∧ wpOps P ops Q rest (a.put d u) w') : wpOps P ops Q (i :: rest) a w := by
  obtain ⟨o, ho, hs⟩ := Option.map_eq_some_iff.1 h
  simp only [sig, Prod.mk.injEq] at hs
  obtain ⟨rfl, hop, h3⟩ := hs
  rw [wpOps_cons]
  unfold wpOp
  simp only [ho]
  rw [if_pos (by unfold Region.wanted; rw [h3])]
  left
  have hrun : (execOp a.eval o).run P w = .ok (.enter f #[a.eval x]) w := by
    have e0 : Array.map a.eval #[x] = #[a.eval x] := by simp
    simp only [execOp, hop, resolve, e0]
    generalize a.eval x = u
    simp only [Sem.run_bind, Act.eval, Deferred.ofValue, Sem.run_pure, Result.andThen_ok, invoke]
    exact hc _ _
  unfold Oper.wp
  rw [hrun]
  simp only [Oper.upon]
  refine hR.mono fun e w' hr => ?_
  obtain ⟨u, rfl, hk⟩ := k e w' hr
  exact hk

theorem run_move' {x : Operand} {o : Oper} (h : o.op = .move x) : (execOp a.eval o).run P w = .ok (.value (a.eval x)) w := by simp [execOp, h]
theorem run_assign' {x : Operand} {o : Oper} (h : o.op = .assign x) : (execOp a.eval o).run P w = .ok (.value (a.eval x)) w := by simp [execOp, h]
theorem run_box' {x : Operand} {T : TypeId} {o : Oper} (h : o.op = .box T x) : (execOp a.eval o).run P w = .ok (.value (.pointer (some ⟨w.heap.size, 0, none⟩))) (w.alloc (.cells (a.eval x).cells T)) := by
  simp [execOp, h, Instr.box, newVar, newRow]
theorem run_fieldAddr' {T : TypeId} {te : TE} (ht : tabOf P T = some te) {p : Operand} {f : Nat} {off size : Nat} {ag : Bool} (hf : te.flds[f]? = some (off, size, ag)) (hsz : size ≠ 0) {b o' : Nat} (hp : a.eval p = .pointer (some ⟨b, o', none⟩)) {o : Oper} (h : o.op = .fieldAddr T p f) :
    (execOp a.eval o).run P w = .ok (.value (.pointer (some ⟨b, o' + off, none⟩))) w := by
  obtain ⟨i, d, z, q1, q2, q3, q4, q5, q6, q7, q8, q9, q10, q11, q12, q13⟩ := tabOf_spec ht
  rw [q12] at hf
  have hd : ∃ fs, d = .struct fs := by
    cases d <;> first | exact ⟨_, rfl⟩ | simp at hf
  obtain ⟨fs, rfl⟩ := hd
  simp only [List.getElem?_map] at hf
  obtain ⟨fd, hfd, he⟩ := Option.map_eq_some_iff.1 hf
  simp only [Prod.mk.injEq] at he
  have hinf : ∃ ii, P.info? fd.type = some ii ∧ ii.size = size := by
    cases hq : P.info? fd.type with
    | none => rw [hq] at he; simp at he; exact absurd he.2.1.symm hsz
    | some ii => rw [hq] at he; exact ⟨ii, rfl, by simpa using he.2.1⟩
  obtain ⟨ii, hii, hsize⟩ := hinf
  have hfs : fs[f]? = some fd := by simpa using hfd
  have hnz : ¬ ii.size = 0 := by rw [hsize]; exact hsz
  simp [execOp, h, hp, Instr.fieldAt, run_underlying q2, hfs, Instr.sureAddr, fieldPlace, sizeOf, typeInfo, hii, hnz, Addr.add_mid, he.1]
theorem run_load1' {T : TypeId} {te : TE} (ht : tabOf P T = some te) (hagg : te.agg = false) {p : Operand} {b off : Nat} {v : Value} (hp : a.eval p = .pointer (some ⟨b, off, none⟩)) (hc : w.cell? ⟨b, off, none⟩ = some v) {o : Oper} (h : o.op = .load T p) :
    (execOp a.eval o).run P w = .ok (.value v) w := by
  simp [execOp, h, Instr.loadAt, Instr.sureAddr, hp, run_loadVar_one ht hagg hc]
theorem run_loadA' {T : TypeId} {te : TE} (ht : tabOf P T = some te) (hagg : te.agg = true) {p : Operand} {b off : Nat} {vs : List Value} (hp : a.eval p = .pointer (some ⟨b, off, none⟩)) (hc : w.rangeAt b off vs) (hl : vs.length = te.size) {o : Oper} (h : o.op = .load T p) :
    (execOp a.eval o).run P w = .ok (.value (.agg vs.toArray)) w := by
  simp [execOp, h, Instr.loadAt, Instr.sureAddr, hp, run_loadVar_agg ht hagg hc hl]
theorem run_len' {T E : TypeId} {te : TE} (ht : tabOf P T = some te) (hE : te.elem = some E) {x : Operand} {ao : Option Addr} {n cap : Nat} (hx : a.eval x = .slice ao n cap) {o : Oper} (h : o.op = .call { callee := .builtin .len, args := #[x], argTypes := #[T] }) :
    (execOp a.eval o).run P w = .ok (.value (.int .i64 n)) w := by
  obtain ⟨i, d, z, q1, q2, q3, q4, q5, q6, q7, q8, q9, q10, q11, q12, q13⟩ := tabOf_spec ht
  rw [q11] at hE
  have hd : d = .slice E := by
    cases d <;> simp at hE
    rw [hE]
  subst hd
  simp [execOp, h, resolve, invoke, builtin, Builtin.len_, run_underlying q2, hx, goInt]
theorem run_index' {T E : TypeId} {te tE : TE} (ht : tabOf P T = some te) (hE : te.elem = some E) (htE : tabOf P E = some tE) {x y : Operand} {b off len cap : Nat} {n : Nat} (hx : a.eval x = .slice (some ⟨b, off, none⟩) len cap) (hy : a.eval y = .int .i64 n) (hn : n < len) {o : Oper} (h : o.op = .indexAddr T x y) :
    (execOp a.eval o).run P w = .ok (.value (.pointer (some ⟨b, off + n * tE.size, none⟩))) w := by
  obtain ⟨i, d, z, q1, q2, q3, q4, q5, q6, q7, q8, q9, q10, q11, q12, q13⟩ := tabOf_spec ht
  rw [q11] at hE
  have hd : d = .slice E := by
    cases d <;> simp at hE
    rw [hE]
  subst hd
  have h1 : (n : Int) < (len : Int) := by omega
  simp [execOp, h, hx, hy, Instr.indexAt, asIntOf, run_underlying q2, hn, run_sizeOf htE, Addr.add_mid]
theorem run_lss' {x y : Operand} {m n : Int} {xT yT : TypeId} (hx : a.eval x = .int .i64 m) (hy : a.eval y = .int .i64 n) {o : Oper} (h : o.op = .binOp .lss xT x y yT) : (execOp a.eval o).run P w = .ok (.value (.bool (decide (m < n)))) w := by
  simp only [execOp, h, hx, hy, eqGuard, Sem.run_bind]
  have : (binOp .lss xT (.int .i64 m) (.int .i64 n)).run P w = .ok (.bool (decide (m < n))) w := by unfold binOp; simp [Op.intCmp]
  split <;> simp [this]
theorem run_add' {x y : Operand} {m n : Int} {xT yT : TypeId} (hx : a.eval x = .int .i64 m) (hy : a.eval y = .int .i64 n) (hi : InI64 (m + n)) {o : Oper} (h : o.op = .binOp .add xT x y yT) : (execOp a.eval o).run P w = .ok (.value (.int .i64 (m + n))) w := by
  simp only [execOp, h, hx, hy, eqGuard, Sem.run_bind]
  have : (binOp .add xT (.int .i64 m) (.int .i64 n)).run P w = .ok (.int .i64 (m + n)) w := by unfold binOp; simp [Op.intArith, wrap_id hi]
  split <;> simp [this]
theorem run_build' {T : TypeId} {parts : Array (Nat × Operand)} {cells : Array Value} (hb : P.built T ((parts.map fun (p : Nat × Operand) => (p.1, a.eval p.2)).toList) = some cells) {o : Oper} (h : o.op = .build T parts) : (execOp a.eval o).run P w = .ok (.value (.agg cells)) w := by
  have hr := run_build (P := P) w T _ cells hb
  simp only [execOp, h, Sem.run_bind, hr, Result.andThen_ok, Sem.run_pure]
theorem run_store' {T : TypeId} {te : TE} (ht : tabOf P T = some te) {p x : Operand} {g off : Nat} {T' : TypeId} {cur : Array Value} (hp : a.eval p = .pointer (some ⟨g, off, none⟩)) (hh : w.heap[g]? = some (.cells cur T' (0, 0))) {vs : Array Value} (hx : a.eval x = .agg vs)
    (hl : vs.size = te.size) (hf : off + te.size ≤ cur.size) (h1 : ∀ u ∈ vs.toList, u.oneCell' = true) {o : Oper} (h : o.op = .store T p x) :
    (execOp a.eval o).run P w = .ok .skip (w.setRow g (cur.toList.take off ++ vs.toList ++ cur.toList.drop (off + vs.toList.length)).toArray) := by
  have hrun := run_store_block (w := w) ht hh (v := .agg vs) (off := off) hl hf h1
  simp only [execOp, h, hp, hx, Instr.storeAt, Instr.sureAddr, Sem.run_bind, Sem.run_pure, Result.andThen_ok, hrun]
  rfl
end

/-! ## Terms that may be turned, so deep -/
def leafV : Value := .agg #[.int .i64 (-7), .int .i64 0, .int .i64 0, .int .i64 0, .slice none 0 0]
def FD (J : Nat → Prop) : Nat → World → Value → Prop
  | 0, _, v => ∃ (a b c e : Int) (ao : Option Addr) (cap : Nat), v = .agg #[.int .i64 a, .int .i64 b, .int .i64 c, .int .i64 e, .slice ao 0 cap]
  | d + 1, w, v => ∃ (a b c e : Int) (ao : Option Addr) (n cap : Nat), v = .agg #[.int .i64 a, .int .i64 b, .int .i64 c, .int .i64 e, .slice ao n cap] ∧ n ≤ BIG ∧
      (n = 0 ∨ ∃ g cs T, ao = some ⟨g, 0, none⟩ ∧ J g ∧ w.heap[g]? = some (.cells cs T (0, 0)) ∧ ∀ i, i < n → ∃ us : List Value, us.length = 5 ∧ (∀ j, j < 5 → cs[i * 5 + j]? = us[j]?) ∧ FD J d w (.agg us.toArray))

theorem FD.leaf (J : Nat → Prop) (w : World) : ∀ d, FD J d w leafV
  | 0 => ⟨-7, 0, 0, 0, none, 0, rfl⟩
  | d + 1 => ⟨-7, 0, 0, 0, none, 0, 0, rfl, Nat.zero_le _, .inl rfl⟩

theorem FD.same {J : Nat → Prop} {w w' : World} (h : ∀ k, J k → w'.heap[k]? = w.heap[k]?) : ∀ (d : Nat) (v : Value), FD J d w v → FD J d w' v
  | 0, v, hv => hv
  | d + 1, v, hv => by
    obtain ⟨a, b, c, e, ao, n, cap, rfl, hn, hr⟩ := hv
    refine ⟨a, b, c, e, ao, n, cap, rfl, hn, hr.imp id ?_⟩
    rintro ⟨g, cs, T, rfl, hg, hh, hk⟩
    refine ⟨g, cs, T, rfl, hg, by rw [h g hg]; exact hh, fun i hi => ?_⟩
    obtain ⟨us, h1, h2, h3⟩ := hk i hi
    exact ⟨us, h1, h2, FD.same h d _ h3⟩

def leafL : List Value := [.int .i64 (-7), .int .i64 0, .int .i64 0, .int .i64 0, .slice none 0 0]
theorem FD.store {J : Nat → Prop} {w : World} {g : Nat} {cur : Array Value} {T : TypeId} (hh : w.heap[g]? = some (.cells cur T (0, 0))) {i0 : Nat} (hi : i0 * 5 + 5 ≤ cur.size) :
    ∀ (d : Nat) (v : Value), FD J d w v → FD J d (w.setRow g (cur.toList.take (i0 * 5) ++ leafL ++ cur.toList.drop (i0 * 5 + leafL.length)).toArray) v
  | 0, v, hv => hv
  | d + 1, v, hv => by
    obtain ⟨a, b, c, e, ao, n, cap, rfl, hn, hr⟩ := hv
    refine ⟨a, b, c, e, ao, n, cap, rfl, hn, hr.imp id ?_⟩
    rintro ⟨g', cs, T', rfl, hg, hh', hk⟩
    by_cases hgg : g' = g
    · subst hgg
      rw [hh] at hh'
      simp only [Option.some.injEq, Obj.cells.injEq] at hh'
      obtain ⟨rfl, rfl, _⟩ := hh'
      refine ⟨g', _, T, rfl, hg, setRow_heap w g' cur _ T (0, 0) hh, fun i hin => ?_⟩
      obtain ⟨us, h1, h2, h3⟩ := hk i hin
      by_cases hii : i = i0
      · subst hii
        refine ⟨leafL, rfl, fun j hj => ?_, ?_⟩
        · rw [List.getElem?_toArray, List.append_assoc, List.getElem?_append_right (by simp; omega), List.getElem?_append_left (by simp [leafL]; omega)]
          congr 1
          simp; omega
        · exact FD.leaf J _ d
      · refine ⟨us, h1, fun j hj => ?_, FD.store hh hi d _ h3⟩
        rw [← h2 j hj, List.getElem?_toArray]
        rcases Nat.lt_or_gt_of_ne hii with hlt | hgt
        · have : (i + 1) * 5 ≤ i0 * 5 := Nat.mul_le_mul_right 5 hlt
          rw [List.append_assoc, List.getElem?_append_left (by simp; omega), List.getElem?_take, if_pos (by omega)]
          simp
        · have : (i0 + 1) * 5 ≤ i * 5 := Nat.mul_le_mul_right 5 hgt
          have hlen : (cur.toList.take (i0 * 5) ++ leafL).length = i0 * 5 + 5 := by simp [leafL]; omega
          rw [List.getElem?_append_right (by omega), hlen, List.getElem?_drop]
          have : i0 * 5 + leafL.length + (i * 5 + j - (i0 * 5 + 5)) = i * 5 + j := by simp [leafL]; omega
          rw [this]; simp
    · refine ⟨g', cs, T', rfl, hg, by rw [setRow_other w g g' _ hgg]; exact hh', fun i hin => ?_⟩
      obtain ⟨us, h1, h2, h3⟩ := hk i hin
      exact ⟨us, h1, h2, FD.store hh hi d _ h3⟩

theorem FD.of_tree {w : World} {N : Nat} {M : Nat → Prop} : ∀ (d : Nat) (t : Tm) (v : Value), t.size ≤ d → t.size ≤ BIG → gI N M w true (.agg t.cells) v → FD (fun b => N ≤ b ∧ b < w.heap.size ∧ ¬ M b) d w v
  | 0, t, v, hd, _, _ => by have := Tm.size_pos t; omega
  | d + 1, .mk k i j n ks, v, hd, hB, hv => by
    obtain ⟨vs, rfl, h⟩ := hv
    simp only [Tm.cells] at h
    cases h with
    | cons h0 h =>
    cases h with
    | cons h1 h =>
    cases h with
    | cons h2 h =>
    cases h with
    | cons h3 h =>
    cases h with
    | cons h4 h =>
    cases h
    simp only [Rep] at h0 h1 h2 h3 h4
    subst h0; subst h1; subst h2; subst h3
    obtain ⟨ao, cap, rfl, hle, hr⟩ := h4
    have hsz := Tm.size_eq (.mk k i j n ks)
    simp only [Tm.kids] at hsz
    have hlen := Tm.length_le ks
    refine ⟨k, i, j, n, ao, (Tm.rows ks).length, cap, rfl, by rw [Tm.rows_length]; omega, ?_⟩
    rcases hr with hr | ⟨g, off, sz, rfl, hok, hrr⟩
    · left; rw [hr]; rfl
    · right
      obtain ⟨hg1, rfl, cs, T, hcs⟩ := hok.2.2 rfl
      refine ⟨g, cs, T, rfl, ⟨hg1, hok.1, hok.2.1⟩, hcs, fun m hm => ?_⟩
      rw [Tm.rows_length] at hm
      have hget : (Tm.rows ks)[m]? = some ks[m].cells := by rw [Tm.rows_eq]; simp [hm]
      obtain ⟨hl, hrow⟩ := hrr.get m _ hget
      rw [Tm.cells_length] at hl
      subst hl
      rw [Nat.zero_add] at hrow
      obtain ⟨us, hu1, hu2⟩ := hrow.flat
      have hul : us.length = 5 := by rw [← hu1.length, Tm.cells_length]
      have hks := Tm.size_mem (List.getElem_mem hm)
      refine ⟨us, hul, fun q hq => ?_, FD.of_tree d ks[m] _ (by omega) (by omega) ⟨us, rfl, hu1⟩⟩
      have := hu2 q us[q] (List.getElem?_eq_getElem (by omega))
      rw [List.getElem?_eq_getElem (by omega : q < us.length)]
      simpa [World.cell?, hcs] using this
end Go.Proofs.YtcaahmielncmpaaGreat
namespace Go.Proofs.YtcaahmielncmpaaGreat
open Go Go.RowKit

/-- What the call does to the world: the blocks in J alone may turn, and what may be turned stays so. -/
structure SpR (J : Nat → Prop) (w w' : World) : Prop where
  os : w'.os = w.os
  tape : w'.tape = w.tape
  output : w'.output = w.output
  size : w.heap.size ≤ w'.heap.size
  block : ∀ k, k < w.heap.size → ¬ J k → w'.heap[k]? = w.heap[k]?
  fd : ∀ d v, FD J d w v → FD J d w' v
theorem SpR.trans {J : Nat → Prop} {a b c : World} (h : SpR J a b) (k : SpR J b c) : SpR J a c :=
  ⟨k.os.trans h.os, k.tape.trans h.tape, k.output.trans h.output, Nat.le_trans h.size k.size, fun i hi hj => (k.block i (Nat.lt_of_lt_of_le hi h.size) hj).trans (h.block i hi hj), fun d v hv => k.fd d v (h.fd d v hv)⟩

def rgOf : Code → Nat → Option (Array Oper)
  | .region i ops _, id => if i = id then some ops else none
  | .seq a b, id => match rgOf a id with
    | some x => some x
    | none => rgOf b id
  | .cond _ a b, id => match rgOf a id with
    | some x => some x
    | none => rgOf b id
  | .block _ b, id => rgOf b id
  | .loop b, id => rgOf b id
  | _, _ => none
noncomputable def RS (id : Nat) : Array Oper := (rgOf (bodyOf Tryz.f13) id).getD #[]
theorem shapeS : Tryz.f13.body = some (.seq (.region 0 (RS 0) false) (.seq (.region 1 (RS 1) false) (.block 0 (.loop (.seq (.seq (.region 2 (RS 2) false) (.cond (.tmp 7) .skip (.exit 0))) (.seq (.block 1 (.seq (.region 4 (RS 4) false) (.region 5 (RS 5) false))) (.region 3 (RS 3) false))))))) := by kernel_rfl
theorem sizeS : (RS 0).size = 1 ∧ (RS 1).size = 1 ∧ (RS 2).size = 5 ∧ (RS 3).size = 3 ∧ (RS 4).size = 6 ∧ (RS 5).size = 6 := ⟨by kernel_rfl, by kernel_rfl, by kernel_rfl, by kernel_rfl, by kernel_rfl, by kernel_rfl⟩
theorem sg00 : ((RS 0)[0]?).map sig = some (some 1, .box 29 (.tmp 0), none) := by kernel_rfl
theorem sg10 : ((RS 1)[0]?).map sig = some (some 2, .assign (.const (.int .i64 0)), none) := by kernel_rfl
theorem sg20 : ((RS 2)[0]?).map sig = some (some 3, .move (.tmp 2), none) := by kernel_rfl
theorem sg21 : ((RS 2)[1]?).map sig = some (some 4, .fieldAddr 29 (.tmp 1) 4, none) := by kernel_rfl
theorem sg22 : ((RS 2)[2]?).map sig = some (some 5, .load 27 (.tmp 4), none) := by kernel_rfl
theorem sg23 : ((RS 2)[3]?).map sig = some (some 6, .call { callee := .builtin .len, args := #[.tmp 5], argTypes := #[27] }, none) := by kernel_rfl
theorem sg24 : ((RS 2)[4]?).map sig = some (some 7, .binOp .lss 3 (.tmp 3) (.tmp 6) 3, none) := by kernel_rfl
theorem sg30 : ((RS 3)[0]?).map sig = some (some 8, .move (.tmp 2), none) := by kernel_rfl
theorem sg31 : ((RS 3)[1]?).map sig = some (some 9, .binOp .add 3 (.tmp 8) (.const (.int .i64 1)) 3, none) := by kernel_rfl
theorem sg32 : ((RS 3)[2]?).map sig = some (some 2, .assign (.tmp 9), none) := by kernel_rfl
theorem sg40 : ((RS 4)[0]?).map sig = some (some 10, .fieldAddr 29 (.tmp 1) 4, none) := by kernel_rfl
theorem sg41 : ((RS 4)[1]?).map sig = some (some 11, .load 27 (.tmp 10), none) := by kernel_rfl
theorem sg42 : ((RS 4)[2]?).map sig = some (some 12, .move (.tmp 2), none) := by kernel_rfl
theorem sg43 : ((RS 4)[3]?).map sig = some (some 13, .indexAddr 27 (.tmp 11) (.tmp 12), none) := by kernel_rfl
theorem sg44 : ((RS 4)[4]?).map sig = some (some 14, .load 29 (.tmp 13), none) := by kernel_rfl
theorem sg45 : ((RS 4)[5]?).map sig = some (some 15, .call { callee := .value (.func 13), args := #[.tmp 14], argTypes := #[29] }, none) := by kernel_rfl
theorem sg50 : ((RS 5)[0]?).map sig = some (some 16, .fieldAddr 29 (.tmp 1) 4, none) := by kernel_rfl
theorem sg51 : ((RS 5)[1]?).map sig = some (some 17, .load 27 (.tmp 16), none) := by kernel_rfl
theorem sg52 : ((RS 5)[2]?).map sig = some (some 18, .move (.tmp 2), none) := by kernel_rfl
theorem sg53 : ((RS 5)[3]?).map sig = some (some 19, .build 29 #[(0, .const (.int .i64 (-7)))], none) := by kernel_rfl
theorem sg54 : ((RS 5)[4]?).map sig = some (some 20, .indexAddr 27 (.tmp 17) (.tmp 18), none) := by kernel_rfl
theorem sg55 : ((RS 5)[5]?).map sig = some (none, .store 29 (.tmp 20) (.tmp 19), none) := by kernel_rfl
theorem builtS : Tryz.prog.built 29 [(0, Value.int .i64 (-7))] = some #[.int .i64 (-7), .int .i64 0, .int .i64 0, .int .i64 0, .slice none 0 0] := by kernel_rfl
theorem callS : Callable Tryz.prog 13 := callable_of Tryz.func13 (by kernel_rfl) (by kernel_rfl)
theorem ntS : Tryz.f13.ntmps = 21 := by kernel_rfl
theorem resS : Tryz.f13.results = #[] := by kernel_rfl

/-- The loop's state. -/
structure StS (q : Nat) (v : Value) (w0 : World) (J : Nat → Prop) (i : Nat) (a : Act) (w : World) : Prop where
  size : a.tmps.size = 21
  defers : a.defers = []
  e1 : a.eval (.tmp 1) = .pointer (some ⟨q, 0, none⟩)
  e2 : a.eval (.tmp 2) = .int .i64 i
  box : w.heap[q]? = some (.cells v.cells 29 (0, 0))
  rel : SpR J w0 w

theorem evC {a : Act} {v : Value} : a.eval (.const v) = v := rfl

section
variable {q : Nat} {w0 w : World} {J : Nat → Prop} {i : Nat} {a : Act} {Q : Exit → Act → World → Prop} {x y z u : Int} {ao : Option Addr} {n cap : Nat}
abbrev nodeV (x y z u : Int) (ao : Option Addr) (n cap : Nat) : Value := .agg #[.int .i64 x, .int .i64 y, .int .i64 z, .int .i64 u, .slice ao n cap]

theorem cell4 (h : w.heap[q]? = some (.cells (nodeV x y z u ao n cap).cells 29 (0, 0))) : w.cell? ⟨q, 0 + 4, none⟩ = some (.slice ao n cap) := by
  simp [World.cell?, h, Value.cells]

theorem reg2 (hs : StS q (nodeV x y z u ao n cap) w0 J i a w) (hk : ∀ a', StS q (nodeV x y z u ao n cap) w0 J i a' w → a'.eval (.tmp 7) = .bool (decide ((i : Int) < (n : Int))) → Q .normal a' w) : (Code.region 2 (RS 2) false).wp Tryz.prog Q a w := by
  refine wp_region ?_
  rw [sizeS.2.2.1]
  show wpOps Tryz.prog (RS 2) Q [0, 1, 2, 3, 4] a w
  have hz := hs.size
  refine step_sig sg20 (fun o h => run_move' h) ?_
  refine step_sig sg21 (fun o h => run_fieldAddr' tab29 (f := 4) (off := 4) (size := 1) (ag := false) rfl (by decide) (b := q) (o' := 0) (by rw [ev_put' (by omega), if_neg (by decide), hs.e1]) h) ?_
  refine step_sig sg22 (fun o h => run_load1' tab27 rfl (b := q) (off := 0 + 4) (by rw [ev_put' (by simp only [put_size']; omega), if_pos rfl]) (cell4 hs.box) h) ?_
  refine step_sig sg23 (fun o h => run_len' tab27 (E := 29) rfl (ao := ao) (n := n) (cap := cap) (by rw [ev_put' (by simp only [put_size']; omega), if_pos rfl]) h) ?_
  refine step_sig sg24 (fun o h => run_lss' (m := i) (n := n) (by
    rw [ev_put' (by simp only [put_size']; omega), if_neg (by decide), ev_put' (by simp only [put_size']; omega), if_neg (by decide), ev_put' (by simp only [put_size']; omega), if_neg (by decide), ev_put' (by omega), if_pos rfl, hs.e2]) (by rw [ev_put' (by simp only [put_size']; omega), if_pos rfl]) h) ?_
  refine hk _ ⟨by simp only [put_size']; exact hz, by simp only [put_defers']; exact hs.defers, ?_, ?_, hs.box, hs.rel⟩ ?_
  · rw [ev_put' (by simp only [put_size']; omega), if_neg (by decide), ev_put' (by simp only [put_size']; omega), if_neg (by decide), ev_put' (by simp only [put_size']; omega), if_neg (by decide), ev_put' (by simp only [put_size']; omega), if_neg (by decide), ev_put' (by omega), if_neg (by decide), hs.e1]
  · rw [ev_put' (by simp only [put_size']; omega), if_neg (by decide), ev_put' (by simp only [put_size']; omega), if_neg (by decide), ev_put' (by simp only [put_size']; omega), if_neg (by decide), ev_put' (by simp only [put_size']; omega), if_neg (by decide), ev_put' (by omega), if_neg (by decide), hs.e2]
  · rw [ev_put' (by simp only [put_size']; omega), if_pos rfl]

theorem reg3 (hs : StS q (nodeV x y z u ao n cap) w0 J i a w) (hi : i < BIG) (hk : ∀ a', StS q (nodeV x y z u ao n cap) w0 J (i + 1) a' w → Q .normal a' w) : (Code.region 3 (RS 3) false).wp Tryz.prog Q a w := by
  refine wp_region ?_
  rw [sizeS.2.2.2.1]
  show wpOps Tryz.prog (RS 3) Q [0, 1, 2] a w
  have hz := hs.size
  unfold BIG at hi
  refine step_sig sg30 (fun o h => run_move' h) ?_
  refine step_sig sg31 (fun o h => run_add' (m := i) (n := 1) (by rw [ev_put' (by omega), if_pos rfl, hs.e2]) evC (by unfold InI64; omega) h) ?_
  refine step_sig sg32 (fun o h => run_assign' h) ?_
  refine hk _ ⟨by simp only [put_size']; exact hz, by simp only [put_defers']; exact hs.defers, ?_, ?_, hs.box, hs.rel⟩
  · rw [ev_put' (by simp only [put_size']; omega), if_neg (by decide), ev_put' (by simp only [put_size']; omega), if_neg (by decide), ev_put' (by omega), if_neg (by decide), hs.e1]
  · rw [ev_put' (by simp only [put_size']; omega), if_pos rfl, ev_put' (by simp only [put_size']; omega), if_pos rfl]
    simp

theorem reg4 {g : Nat} {cs : Array Value} {T : TypeId} {us : List Value} (hs : StS q (nodeV x y z u (some ⟨g, 0, none⟩) n cap) w0 J i a w) (hin : i < n) (hcs : w.heap[g]? = some (.cells cs T (0, 0))) (hul : us.length = 5) (hus : ∀ j, j < 5 → cs[i * 5 + j]? = us[j]?)
    (hq : ¬ J q) (hJ : ∀ b, J b → b < w.heap.size) (hqs : q < w.heap.size) (hcall : Calls Tryz.prog 13 #[.agg us.toArray] w fun e w' => ∃ u, e = .returned u ∧ SpR J w w')
    (hk : ∀ a' w', StS q (nodeV x y z u (some ⟨g, 0, none⟩) n cap) w0 J i a' w' → SpR J w w' → Q .normal a' w') : (Code.region 4 (RS 4) false).wp Tryz.prog Q a w := by
  refine wp_region ?_
  rw [sizeS.2.2.2.2.1]
  show wpOps Tryz.prog (RS 4) Q [0, 1, 2, 3, 4, 5] a w
  have hz := hs.size
  refine step_sig sg40 (fun o h => run_fieldAddr' tab29 (f := 4) (off := 4) (size := 1) (ag := false) rfl (by decide) (b := q) (o' := 0) hs.e1 h) ?_
  refine step_sig sg41 (fun o h => run_load1' tab27 rfl (b := q) (off := 0 + 4) (by rw [ev_put' (by omega), if_pos rfl]) (cell4 hs.box) h) ?_
  refine step_sig sg42 (fun o h => run_move' h) ?_
  refine step_sig sg43 (fun o h => run_index' tab27 (E := 29) rfl tab29 (b := g) (off := 0) (len := n) (cap := cap) (n := i) (by rw [ev_put' (by simp only [put_size']; omega), if_neg (by decide), ev_put' (by simp only [put_size']; omega), if_pos rfl])
    (by rw [ev_put' (by simp only [put_size']; omega), if_pos rfl, ev_put' (by simp only [put_size']; omega), if_neg (by decide), ev_put' (by omega), if_neg (by decide), hs.e2]) hin h) ?_
  have hte : te29.size = 5 := rfl
  refine step_sig sg44 (fun o h => run_loadA' tab29 rfl (b := g) (off := 0 + i * te29.size) (vs := us) (by rw [ev_put' (by simp only [put_size']; omega), if_pos rfl]) (fun j v hv => by
    have hj : j < 5 := by rw [← hul]; exact (List.getElem?_eq_some_iff.1 hv).1
    rw [hte, Nat.zero_add]
    simp only [World.cell?, hcs]
    rw [hus j hj]; exact hv) (by rw [hul, hte]) h) ?_
  refine step_sig_call sg45 callS (R := fun e w' => ∃ u, e = .returned u ∧ SpR J w w') (by rw [ev_put' (by simp only [put_size']; omega), if_pos rfl]; exact hcall) ?_
  rintro e w' ⟨r, rfl, hr⟩
  refine ⟨r, rfl, ?_⟩
  refine hk _ _ ⟨by simp only [put_size']; exact hz, by simp only [put_defers']; exact hs.defers, ?_, ?_, by rw [hr.block q hqs hq]; exact hs.box, hs.rel.trans hr⟩ hr
  · rw [ev_put' (by simp only [put_size']; omega), if_neg (by decide), ev_put' (by simp only [put_size']; omega), if_neg (by decide), ev_put' (by simp only [put_size']; omega), if_neg (by decide), ev_put' (by simp only [put_size']; omega), if_neg (by decide), ev_put' (by simp only [put_size']; omega), if_neg (by decide), ev_put' (by omega), if_neg (by decide), hs.e1]
  · rw [ev_put' (by simp only [put_size']; omega), if_neg (by decide), ev_put' (by simp only [put_size']; omega), if_neg (by decide), ev_put' (by simp only [put_size']; omega), if_neg (by decide), ev_put' (by simp only [put_size']; omega), if_neg (by decide), ev_put' (by simp only [put_size']; omega), if_neg (by decide), ev_put' (by omega), if_neg (by decide), hs.e2]

theorem reg5 {g : Nat} {cs : Array Value} {T : TypeId} (hs : StS q (nodeV x y z u (some ⟨g, 0, none⟩) n cap) w0 J i a w) (hin : i < n) (hg : J g) (hq : ¬ J q) (hJ : ∀ b, J b → b < w.heap.size) (hcs : w.heap[g]? = some (.cells cs T (0, 0))) (hsz : i * 5 + 5 ≤ cs.size)
    (hk : ∀ a' w', StS q (nodeV x y z u (some ⟨g, 0, none⟩) n cap) w0 J i a' w' → Q .normal a' w') : (Code.region 5 (RS 5) false).wp Tryz.prog Q a w := by
  refine wp_region ?_
  rw [sizeS.2.2.2.2.2]
  show wpOps Tryz.prog (RS 5) Q [0, 1, 2, 3, 4, 5] a w
  have hz := hs.size
  refine step_sig sg50 (fun o h => run_fieldAddr' tab29 (f := 4) (off := 4) (size := 1) (ag := false) rfl (by decide) (b := q) (o' := 0) hs.e1 h) ?_
  refine step_sig sg51 (fun o h => run_load1' tab27 rfl (b := q) (off := 0 + 4) (by rw [ev_put' (by omega), if_pos rfl]) (cell4 hs.box) h) ?_
  refine step_sig sg52 (fun o h => run_move' h) ?_
  refine step_sig sg53 (fun o h => run_build' (by simpa [evC] using builtS) h) ?_
  refine step_sig sg54 (fun o h => run_index' tab27 (E := 29) rfl tab29 (b := g) (off := 0) (len := n) (cap := cap) (n := i) (by rw [ev_put' (by simp only [put_size']; omega), if_neg (by decide), ev_put' (by simp only [put_size']; omega), if_neg (by decide), ev_put' (by simp only [put_size']; omega), if_pos rfl])
    (by rw [ev_put' (by simp only [put_size']; omega), if_neg (by decide), ev_put' (by simp only [put_size']; omega), if_pos rfl, ev_put' (by simp only [put_size']; omega), if_neg (by decide), ev_put' (by omega), if_neg (by decide), hs.e2]) hin h) ?_
  have hte : te29.size = 5 := rfl
  refine step_sig_skip sg55 (fun o h => run_store' tab29 (g := g) (off := 0 + i * te29.size) (by rw [ev_put' (by simp only [put_size']; omega), if_pos rfl]) hcs (by rw [ev_put' (by simp only [put_size']; omega), if_neg (by decide), ev_put' (by simp only [put_size']; omega), if_pos rfl]) (by rw [hte]; rfl) (by rw [hte]; omega) (by simp [Value.oneCell']) h) ?_
  have hoff : 0 + i * te29.size = i * 5 := by rw [hte, Nat.zero_add]
  rw [hoff]
  have hgq : q ≠ g := fun e => hq (e ▸ hg)
  have hgs := hJ g hg
  have hr : SpR J w (w.setRow g (cs.toList.take (i * 5) ++ leafL ++ cs.toList.drop (i * 5 + leafL.length)).toArray) :=
    ⟨rfl, rfl, rfl, by simp, fun k _ hkj => setRow_other w g k _ (fun e => hkj (e ▸ hg)), fun d v hv => FD.store hcs hsz d v hv⟩
  refine hk _ _ ⟨by simp only [put_size']; exact hz, by simp only [put_defers']; exact hs.defers, ?_, ?_, ?_, hs.rel.trans hr⟩
  · rw [ev_put' (by simp only [put_size']; omega), if_neg (by decide), ev_put' (by simp only [put_size']; omega), if_neg (by decide), ev_put' (by simp only [put_size']; omega), if_neg (by decide), ev_put' (by simp only [put_size']; omega), if_neg (by decide), ev_put' (by omega), if_neg (by decide), hs.e1]
  · rw [ev_put' (by simp only [put_size']; omega), if_neg (by decide), ev_put' (by simp only [put_size']; omega), if_neg (by decide), ev_put' (by simp only [put_size']; omega), if_neg (by decide), ev_put' (by simp only [put_size']; omega), if_neg (by decide), ev_put' (by omega), if_neg (by decide), hs.e2]
  · rw [show (w.setRow g _).heap[q]? = w.heap[q]? from setRow_other w g q _ hgq]; exact hs.box
end
end Go.Proofs.YtcaahmielncmpaaGreat
namespace Go.Proofs.YtcaahmielncmpaaGreat
open Go Go.RowKit

theorem start_eval (v : Value) (k : Nat) : ({ tmps := #[v] ++ Array.replicate k Go.undef, defers := [] } : Act).eval (.tmp 0) = v := by
  show Array.getD _ 0 Go.undef = _
  rw [Array.getD_eq_getD_getElem?, Array.getElem?_append_left (by simp)]
  rfl
theorem start_size (v : Value) {m : Nat} (h : m = 21) : ({ tmps := #[v] ++ Array.replicate (m - (#[v] : Array Value).size) Go.undef, defers := [] } : Act).tmps.size = 21 := by
  subst h; simp
/-- One call, from what is known of the calls on its kids. -/
theorem spoil_step (w : World) (J : Nat → Prop) (v : Value) (hJ : ∀ b, J b → b < w.heap.size) {d : Nat} (hv : FD J (d + 1) w v) {hd : Prop}
    (ih : hd → ∀ (w' : World) (u : Value), (∀ b, J b → b < w'.heap.size) → FD J d w' u → Calls Tryz.prog 13 #[u] w' fun e w2 => ∃ r, e = .returned r ∧ SpR J w' w2) (hkid : hd ∨ ∃ (a b c e : Int) (ao : Option Addr) (cap : Nat), v = nodeV a b c e ao 0 cap) :
    Calls Tryz.prog 13 #[v] w fun e w' => ∃ u, e = .returned u ∧ SpR J w w' := by
  obtain ⟨x, y, z, u, ao, n, cap, rfl, hn, hr⟩ := hv
  have hv0 : FD J (d + 1) w (nodeV x y z u ao n cap) := ⟨x, y, z, u, ao, n, cap, rfl, hn, hr⟩
  refine calls_of_wp Tryz.func13 shapeS ?_
  suffices key : ∀ a0 : Act, a0.tmps.size = 21 → a0.defers = [] → a0.eval (.tmp 0) = nodeV x y z u ao n cap → (Code.seq (.region 0 (RS 0) false) (.seq (.region 1 (RS 1) false) (.block 0 (.loop (.seq (.seq (.region 2 (RS 2) false) (.cond (.tmp 7) .skip (.exit 0))) (.seq (.block 1 (.seq (.region 4 (RS 4) false) (.region 5 (RS 5) false))) (.region 3 (RS 3) false))))))).wp Tryz.prog (bodyPost Tryz.prog Tryz.f13 fun e w' => ∃ u, e = .returned u ∧ SpR J w w') a0 w from
    key _ (start_size _ ntS) rfl (start_eval _ _)
  intro a0 hz hdf hev
  have hq : ¬ J w.heap.size := fun h => by have := hJ _ h; omega
  have hrel : SpR J w (w.alloc (.cells (nodeV x y z u ao n cap).cells 29)) :=
    ⟨rfl, rfl, rfl, by simp, fun k hk _ => Below.heap_alloc w _ k hk, fun d v hv => FD.same (fun k hk => Below.heap_alloc w _ k (hJ k hk)) d v hv⟩
  -- the first two regions
  refine wp_seq (wp_region ?_)
  rw [sizeS.1]
  show wpOps Tryz.prog (RS 0) _ [0] _ _
  refine step_sig sg00 (fun o h => run_box' h) ?_
  refine wp_seq (wp_region ?_)
  rw [sizeS.2.1]
  show wpOps Tryz.prog (RS 1) _ [0] _ _
  refine step_sig sg10 (fun o h => run_assign' h) ?_
  rw [hev]
  have hst : StS w.heap.size (nodeV x y z u ao n cap) w J 0 ((a0.put (some 1) (.pointer (some ⟨w.heap.size, 0, none⟩))).put (some 2) (.int .i64 0)) (w.alloc (.cells (nodeV x y z u ao n cap).cells 29)) := by
    refine ⟨by simp only [put_size']; exact hz, by simp only [put_defers']; exact hdf, ?_, ?_, ?_, hrel⟩
    · rw [ev_put' (by simp only [put_size']; omega), if_neg (by decide), ev_put' (by omega), if_pos rfl]
    · rw [ev_put' (by simp only [put_size']; omega), if_pos rfl]; rfl
    · exact heap_alloc_new w (.cells (nodeV x y z u ao n cap).cells 29)
  refine wp_block (wp_loop_ghost (fun m a w' => ∃ i, i ≤ n ∧ m = n - i ∧ StS w.heap.size (nodeV x y z u ao n cap) w J i a w') n ⟨0, Nat.zero_le _, by omega, hst⟩ ?_)
  rintro m a w' ⟨i, hi, rfl, hs⟩
  refine wp_seq (wp_seq (reg2 hs fun a2 hs2 h7 => ?_))
  refine wp_cond_split h7 (fun ht => ?_) (fun hf => ?_)
  · -- a round
    have hin : i < n := by simpa using ht
    refine wp_skip ?_
    rcases hr with hr | ⟨g, cs0, T0, rfl, hg, _, _⟩
    · omega
    have hd' : hd := by
      rcases hkid with h | ⟨a, b, c, e, ao, cap, h⟩
      · exact h
      · simp only [nodeV, Value.agg.injEq] at h
        simp at h
        omega
    have hJ' : ∀ b, J b → b < w'.heap.size := fun b hb => Nat.lt_of_lt_of_le (hJ b hb) hs2.rel.size
    have hqs : w.heap.size < w'.heap.size := (Array.getElem?_eq_some_iff.1 hs2.box).1
    obtain ⟨_, _, _, _, _, _, _, he, _, hr1⟩ := hs2.rel.fd _ _ hv0
    simp only [nodeV, Value.agg.injEq] at he
    simp at he
    obtain ⟨_, _, _, _, rfl, rfl, rfl⟩ := he
    rcases hr1 with hr1 | ⟨g1, cs, T, he1, _, hcs, hk⟩
    · omega
    simp only [Option.some.injEq, Addr.mk.injEq, and_true] at he1
    subst he1
    obtain ⟨us, hul, hus, hfd⟩ := hk i hin
    refine wp_seq (wp_block (wp_seq (reg4 hs2 hin hcs hul hus hq hJ' hqs (ih hd' w' _ hJ' hfd) fun a3 w3 hs3 hr3 => ?_)))
    have hJ3 : ∀ b, J b → b < w3.heap.size := fun b hb => Nat.lt_of_lt_of_le (hJ b hb) hs3.rel.size
    obtain ⟨_, _, _, _, _, _, _, he, _, hr2⟩ := hs3.rel.fd _ _ hv0
    simp only [nodeV, Value.agg.injEq] at he
    simp at he
    obtain ⟨_, _, _, _, rfl, rfl, rfl⟩ := he
    rcases hr2 with hr2 | ⟨g2, cs2, T2, he2, hg2, hcs2, hk2⟩
    · omega
    simp only [Option.some.injEq, Addr.mk.injEq, and_true] at he2
    subst he2
    obtain ⟨us2, hul2, hus2, _⟩ := hk2 i hin
    have hsz : i * 5 + 5 ≤ cs2.size := by
      have h4 := hus2 4 (by omega)
      rw [List.getElem?_eq_getElem (by omega)] at h4
      have := (Array.getElem?_eq_some_iff.1 h4).1
      omega
    refine reg5 hs3 hin hg2 hq hJ3 hcs2 hsz fun a4 w4 hs4 => ?_
    refine reg3 hs4 (by omega) fun a5 hs5 => ?_
    exact ⟨n - (i + 1), by omega, i + 1, by omega, rfl, hs5⟩
  · -- the end
    refine wp_exit ?_
    simp only [Exit.then, Exit.inBlock, if_true]
    refine ⟨hs2.defers, .tuple #[], ?_, .tuple #[], rfl, hs2.rel⟩
    unfold results
    rw [resS]
    simp

theorem spoil_calls : ∀ (d : Nat) (w : World) (J : Nat → Prop) (v : Value), (∀ b, J b → b < w.heap.size) → FD J d w v → Calls Tryz.prog 13 #[v] w fun e w' => ∃ u, e = .returned u ∧ SpR J w w' := by
  intro d
  induction d with
  | zero =>
    intro w J v hJ hv
    exact spoil_step w J v hJ (d := 0) (by
      obtain ⟨a, b, c, e, ao, cap, rfl⟩ := hv
      exact ⟨a, b, c, e, ao, 0, cap, rfl, Nat.zero_le _, .inl rfl⟩) (hd := False) (fun h => h.elim) (.inr hv)
  | succ d ih => exact fun w J v hJ hv => spoil_step w J v hJ (d := d) hv (hd := True) (fun _ w' u hJ' hu => ih w' J u hJ' hu) (.inl trivial)

/-- What the call of Spoil may turn. -/
theorem spoilOK : SpoilOk Tryz.prog 13 TmGood := by
  refine ⟨callS, ?_⟩
  rintro w N _ v hN ⟨t, rfl, hb⟩ hv
  refine (spoil_calls t.size w (fun b => N ≤ b ∧ b < w.heap.size ∧ ¬ False) v (fun b h => h.2.1) (FD.of_tree (M := fun _ => False) t.size t v (Nat.le_refl _) hb hv)).mono ?_
  rintro e w' ⟨u, rfl, hr⟩
  exact ⟨u, rfl, hr.os, hr.tape, hr.output, hr.size, fun k hk => hr.block k (by omega) (fun h => by omega)⟩
end Go.Proofs.YtcaahmielncmpaaGreat

namespace Go.Proofs.YtcaahmielncmpaaGreat
open Go Go.RowKit
set_option maxRecDepth 20000

/-! ## Three calls that turn the parts of one judgment -/
def hdC : Code → Code
  | .seq x _ => x
  | c => c
def tlC : Nat → Code → Code
  | 0, c => c
  | n + 1, .seq _ y => tlC n y
  | _, c => c
noncomputable def R3 (id : Nat) : Array Oper := (rgOf (bodyOf Tryz.f3) id).getD #[]
theorem h8 : hdC (tlC 6 (bodyOf Tryz.f3)) = .region 8 (R3 8) false := by kernel_rfl
theorem h9 : tlC 7 (bodyOf Tryz.f3) = .seq (.region 9 (R3 9) false) (.seq (.region 10 (R3 10) false) (tlC 9 (bodyOf Tryz.f3))) := by kernel_rfl
theorem cut3 {x2 x3 z : Code} (h : tlC 7 (bodyOf Tryz.f3) = .seq x2 (.seq x3 z)) : x2 = .region 9 (R3 9) false ∧ x3 = .region 10 (R3 10) false := by
  rw [h9] at h
  injection h with e1 e2
  injection e2 with e3 e4
  exact ⟨e1.symm, e3.symm⟩
theorem size3 : (R3 8).size = 3 ∧ (R3 9).size = 3 ∧ (R3 10).size = 3 := ⟨by kernel_rfl, by kernel_rfl, by kernel_rfl⟩
theorem q80 : ((R3 8)[0]?).map sig = some (some 61, .fieldAddr 31 (.tmp 11) 1, none) := by kernel_rfl
theorem q81 : ((R3 8)[1]?).map sig = some (some 62, .load 29 (.tmp 61), none) := by kernel_rfl
theorem q82 : ((R3 8)[2]?).map sig = some (some 63, .call { callee := .value (.func 13), args := #[.tmp 62], argTypes := #[29] }, none) := by kernel_rfl
theorem q90 : ((R3 9)[0]?).map sig = some (some 64, .fieldAddr 31 (.tmp 11) 2, none) := by kernel_rfl
theorem q91 : ((R3 9)[1]?).map sig = some (some 65, .load 29 (.tmp 64), none) := by kernel_rfl
theorem q92 : ((R3 9)[2]?).map sig = some (some 66, .call { callee := .value (.func 13), args := #[.tmp 65], argTypes := #[29] }, none) := by kernel_rfl
theorem q100 : ((R3 10)[0]?).map sig = some (some 67, .fieldAddr 31 (.tmp 11) 3, none) := by kernel_rfl
theorem q101 : ((R3 10)[1]?).map sig = some (some 68, .load 29 (.tmp 67), none) := by kernel_rfl
theorem q102 : ((R3 10)[2]?).map sig = some (some 69, .call { callee := .value (.func 13), args := #[.tmp 68], argTypes := #[29] }, none) := by kernel_rfl

theorem put_get {a : Act} {d t : Nat} {v : Value} (h : t ≠ d) : (a.put (some d) v).tmps[t]? = a.tmps[t]? := by
  simp only [Act.put]
  rw [Array.getElem?_setIfInBounds_ne (Ne.symm h)]
theorem ev_get {a : Act} {t : Nat} {v : Value} (h : a.tmps[t]? = some v) : a.eval (.tmp t) = v := by
  show a.tmps.getD t Go.undef = v
  rw [Array.getD_eq_getD_getElem?, h]; rfl
/-- One of the three regions. -/
theorem regJ {R : Array Oper} {id k off d1 d2 d3 : Nat} (hsz : R.size = 3) (q0 : (R[0]?).map sig = some (some d1, .fieldAddr 31 (.tmp 11) k, none)) (q1 : (R[1]?).map sig = some (some d2, .load 29 (.tmp d1), none))
    (q2 : (R[2]?).map sig = some (some d3, .call { callee := .value (.func 13), args := #[.tmp d2], argTypes := #[29] }, none)) (hf : te31.flds[k]? = some (off, 5, true))
    {a : Act} {w : World} {Q : Exit → Act → World → Prop} {b : Nat} {vs : Array Value} {T : TypeId} (h1 : d1 < a.tmps.size) (h2 : d2 < a.tmps.size) (hb : w.heap[b]? = some (.cells vs T (0, 0))) (he : a.tmps[11]? = some (.pointer (some ⟨b, 0, none⟩)))
    {us : List Value} (hul : us.length = 5) (hus : ∀ j, j < 5 → vs[off + j]? = us[j]?) {J : Nat → Prop} {d : Nat} (hfd : FD J d w (.agg us.toArray)) (hJ : ∀ x, J x → x < w.heap.size)
    (hk : ∀ a' w', a'.tmps.size = a.tmps.size → a'.defers = a.defers → (∀ t, t ≠ d1 → t ≠ d2 → t ≠ d3 → a'.tmps[t]? = a.tmps[t]?) → SpR J w w' → Q .normal a' w') : (Code.region id R false).wp Tryz.prog Q a w := by
  refine wp_region ?_
  rw [hsz]
  show wpOps Tryz.prog R Q [0, 1, 2] a w
  refine step_sig q0 (fun o h => run_fieldAddr' tab31 (f := k) hf (by decide) (b := b) (o' := 0) (ev_get he) h) ?_
  have hte : te29.size = 5 := rfl
  refine step_sig q1 (fun o h => run_loadA' tab29 rfl (b := b) (off := 0 + off) (vs := us) (by rw [ev_put' h1, if_pos rfl]) (fun j v hv => by
    have hj : j < 5 := by rw [← hul]; exact (List.getElem?_eq_some_iff.1 hv).1
    rw [Nat.zero_add]
    simp only [World.cell?, hb]
    rw [hus j hj]; exact hv) (by rw [hul, hte]) h) ?_
  refine step_sig_call q2 callS (R := fun e w' => ∃ u, e = .returned u ∧ SpR J w w') (by rw [ev_put' (by simp only [put_size']; exact h2), if_pos rfl]; exact spoil_calls d w J _ hJ hfd) ?_
  rintro e w' ⟨r, rfl, hr⟩
  refine ⟨r, rfl, hk _ _ (by simp only [put_size']) (by simp only [put_defers']) (fun t t1 t2 t3 => ?_) hr⟩
  rw [put_get t3, put_get t2, put_get t1]
theorem spoil3_get {s : SS} {ds : List Nat} {t : Nat} {y : SV} (h : (s.spoil3 ds).get t = some y) : t ∉ ds ∧ ∃ v, s.get t = some v ∧ v.keep = some y := by
  have := mem_of_lookup h
  obtain ⟨p, _, hp⟩ := List.mem_filterMap.1 this
  split at hp
  · cases hp
  · rename_i hd
    split at hp
    · rename_i v hv
      obtain ⟨z, hz, he⟩ := Option.map_eq_some_iff.1 hp
      simp only [Prod.mk.injEq] at he
      obtain ⟨rfl, rfl⟩ := he
      exact ⟨by simpa using hd, v, hv, hz⟩
    · cases hp
theorem part_cells {l : List C} {vs : List Value} {R : C → Value → Prop} (h : All2 R l vs) (off : Nat) (t : Tm) (ht : (l.drop off).take 5 = t.cells) : All2 R t.cells ((vs.drop off).take 5) := by
  rw [← ht]; exact (h.drop off).take 5
theorem sp3 : Sp3Ok Tryz.prog 92 [(11, ShV.o), (61, ShV.o), (62, ShV.o), (63, ShV.o), (64, ShV.o), (65, ShV.o), (66, ShV.o), (67, ShV.o), (68, ShV.o), (69, ShV.o)] (hdC (tlC 6 (bodyOf Tryz.f3))) (.region 9 (R3 9) false) (.region 10 (R3 10) false) := by
  intro cx s u id sh ds J rest Q hP hnt hF hcut hu hob b1 b2 b3 hrest β a w hg
  simp only [List.cons.injEq, Prod.mk.injEq] at hcut
  obtain ⟨⟨rfl, _⟩, rfl⟩ := hcut
  obtain ⟨v, hv1, hv2⟩ := hg.slots 11 _ (SS.get_some hu)
  have hob' := SS.obj_some hob
  obtain ⟨bb, hbb1, hbb2⟩ := hv2.2 (by rw [hob']; rfl)
  obtain ⟨b, T, vs, o1, o2, o3, o4⟩ := hg.objs id _ hob'
  rw [o1] at hbb1
  simp [blkOf] at hbb1
  subst hbb1
  rw [hbb2] at hv1
  have hmut : Mut cx β s.to b := .inr ⟨id, _, hob', by rw [o1]; rfl⟩
  have hall := All2.of_map_left (AC.c · true) o4
  have hJd : Ty.cells .jd J = C.bool J.eq :: (J.u.cells ++ J.v.cells ++ J.a.cells ++ [.int J.i]) := rfl
  rw [hJd] at hall
  have hcu := Tm.cells_length J.u
  have hcv := Tm.cells_length J.v
  have hca := Tm.cells_length J.a
  have pu := part_cells hall 1 J.u (by simp [← hcu])
  have pv := part_cells hall 6 J.v (by
    have : (6 : Nat) = 1 + J.u.cells.length := by omega
    rw [this, Nat.add_comm, List.drop_succ_cons, List.append_assoc, List.append_assoc, List.drop_left, ← hcv, List.take_left])
  have pa := part_cells hall 11 J.a (by
    have : (11 : Nat) = (J.u.cells ++ J.v.cells).length + 1 := by simp; omega
    rw [this, List.drop_succ_cons, List.append_assoc, List.drop_left, ← hca, List.take_left])
  have hlen : vs.size = 17 := by
    have := hall.length
    simp at this
    omega
  have hN : cx.N ≤ w.heap.size := hg.ext.size
  let JJ : Nat → Prop := fun x => cx.N ≤ x ∧ x < w.heap.size ∧ ¬ Mut cx β s.to x
  have hJJ : ∀ x, JJ x → x < w.heap.size := fun x h => h.2.1
  have hbJ : ¬ JJ b := fun h => h.2.2 hmut
  have hblt := (Array.getElem?_eq_some_iff.1 o3).1
  have ofT : ∀ (t : Tm) (us : List Value), t.size ≤ BIG → All2 (fun x v => gC cx β s.to w (AC.c x true) v) t.cells us → FD JJ t.size w (.agg us.toArray) := fun t us hB h => by
    refine FD.of_tree (N := cx.N) (M := Mut cx β s.to) t.size t _ (Nat.le_refl _) hB ⟨us, rfl, ?_⟩
    rw [← hF]
    exact h
  have fu := ofT J.u _ b1 pu
  have fv := ofT J.v _ b2 pv
  have fa := ofT J.a _ b3 pa
  have hus : ∀ off, off + 5 ≤ 17 → ((vs.toList.drop off).take 5).length = 5 ∧ ∀ j, j < 5 → vs[off + j]? = ((vs.toList.drop off).take 5)[j]? := fun off ho => by
    refine ⟨by simp [hlen]; omega, fun j hj => ?_⟩
    rw [List.getElem?_take_of_lt hj, List.getElem?_drop]
    simp
  have hsz : a.tmps.size = 92 := by rw [hg.size, hnt]
  rw [h8]
  show Code.wp cx.P _ _ a w
  rw [hP]
  refine wp_seq (regJ size3.1 q80 q81 q82 (off := 1) rfl (by omega) (by omega) o3 hv1 (hus 1 (by omega)).1 (hus 1 (by omega)).2 fu hJJ fun a1 w1 z1 d1 k1 r1 => ?_)
  have o31 : w1.heap[b]? = some (.cells vs T (0, 0)) := by rw [r1.block b hblt hbJ]; exact o3
  have hJ1 : ∀ x, JJ x → x < w1.heap.size := fun x h => Nat.lt_of_lt_of_le (hJJ x h) r1.size
  refine wp_seq (regJ size3.2.1 q90 q91 q92 (off := 6) rfl (by omega) (by omega) o31 (by rw [k1 11 (by decide) (by decide) (by decide)]; exact hv1) (hus 6 (by omega)).1 (hus 6 (by omega)).2 (r1.fd _ _ fv) hJ1 fun a2 w2 z2 d2 k2 r2 => ?_)
  have r12 := r1.trans r2
  have o32 : w2.heap[b]? = some (.cells vs T (0, 0)) := by rw [r12.block b hblt hbJ]; exact o3
  have hJ2 : ∀ x, JJ x → x < w2.heap.size := fun x h => Nat.lt_of_lt_of_le (hJJ x h) r12.size
  refine wp_seq (regJ size3.2.2 q100 q101 q102 (off := 11) rfl (by omega) (by omega) o32 (by rw [k2 11 (by decide) (by decide) (by decide), k1 11 (by decide) (by decide) (by decide)]; exact hv1) (hus 11 (by omega)).1 (hus 11 (by omega)).2 (r12.fd _ _ fa) hJ2 fun a3 w3 z3 d3 k3 r3 => ?_)
  have r13 := r12.trans r3
  have hb : Below cx.N w w3 := ⟨r13.os, r13.tape, r13.output, r13.size, fun k hk => r13.block k (by omega) (fun h => by have := h.1; omega)⟩
  have hres : rest.wp cx.P (conc cx Q) a3 w3 := by
    refine hrest β a3 w3 ⟨hg.ext.trans hb, hg.sb, hg.fb, by rw [d3, d2, d1]; exact hg.defers, by omega, ⟨fun t av hh => ?_, fun id o hh => ?_⟩, fun t av hh => ?_, fun id o hh => ?_, fun id id' o o' hh => ?_⟩
    · rw [SS.get_to] at hh
      obtain ⟨y, hy, rfl⟩ := Option.map_eq_some_iff.1 hh
      obtain ⟨_, v0, _, hk⟩ := spoil3_get hy
      exact (keep_ok hk).wf
    · rw [SS.obj_to] at hh; cases hh
    · rw [SS.get_to] at hh
      obtain ⟨y, hy, rfl⟩ := Option.map_eq_some_iff.1 hh
      obtain ⟨hn, v0, hv0, hk⟩ := spoil3_get hy
      obtain ⟨x, x1, x2⟩ := hg.slots t _ (SS.get_some hv0)
      simp only [List.map_cons, List.map_nil, List.mem_cons, List.not_mem_nil, or_false, not_or] at hn
      refine ⟨x, ?_, (keep_ok hk).gV x2⟩
      rw [k3 t (by omega) (by omega) (by omega), k2 t (by omega) (by omega) (by omega), k1 t (by omega) (by omega) (by omega)]
      exact x1
    · rw [SS.obj_to] at hh; cases hh
    · rw [SS.obj_to] at hh; cases hh
  rw [hP] at hres
  exact hres
end Go.Proofs.YtcaahmielncmpaaGreat
