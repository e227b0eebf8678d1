/-
  Calls, regions in any order, code and loops are sound on abstract states.
-/
import Derived.Test.YtcaahmielncmpaaGreatLabA
import Derived.Still
import Derived.Deep.LoopGhost
import Derived.ProofKit
set_option linter.unusedSimpArgs false
set_option linter.unusedVariables false
namespace Go.Proofs.YtcaahmielncmpaaGreat
open Go Go.RowKit

section
variable {cx : Cx} {K : Nat → Prop} {β : Nat → Value} {s : AS} {a : Act} {w : World} {nid : Nat}

theorem ownBlock_of_own {base e size n : Nat} {v : Value} {xs : List Value} (h : w.ownsRow base e size v n xs) : blkOf v = v.ownBlock := by
  rcases h.2 with ⟨rfl, _⟩ | ⟨g, cap, cur, rfl, _⟩ <;> rfl

/-- A slice's rows as the cells behind it. -/
def FlatIn (w : World) (R : C → Value → Prop) (new : List (List C)) (v2 : Value) : Prop :=
  ∃ ao cap, v2 = .slice ao new.length cap ∧ (new = [] ∨ ∃ b off ys, ao = some ⟨b, off, none⟩ ∧ (∀ j u, ys[j]? = some u → w.cell? ⟨b, off + j, none⟩ = some u) ∧ All2 R new.flatten ys)

theorem rowsOf_flat (hg : Good cx β K s a w) {av : AV} {v : Value} (hv : gV cx β s w av v) {rows : List (List C)} {fr : Bool} {ids : List Nat} (h : s.rowsOf av = some (rows, fr, ids)) :
    FlatIn w (Rep (okA cx.F (Mut cx β s) w fr) w) rows v := by
  unfold AS.rowsOf at h
  split at h
  · simp only [Option.some.injEq, Prod.mk.injEq] at h
    obtain ⟨rfl, rfl, rfl⟩ := h
    simp only [gV, g1, gC, Rep] at hv
    obtain ⟨ao, cap, rfl, _, hr⟩ := hv
    refine ⟨ao, cap, rfl, hr.imp id ?_⟩
    rintro ⟨b, off, sz, rfl, hb, hrr⟩
    obtain ⟨ys, y1, y2, y3⟩ := hrr.flat
    exact ⟨b, off, ys, rfl, y3, y2⟩
  · simp only [Option.some.injEq, Prod.mk.injEq] at h
    obtain ⟨rfl, rfl, rfl⟩ := h
    exact ⟨none, 0, hv, .inl rfl⟩
  · rename_i id
    split at h
    · rename_i e sz rows' fr' ho
      simp only [Option.some.injEq, Prod.mk.injEq] at h
      obtain ⟨rfl, rfl, rfl⟩ := h
      have := hv.2 (by rw [ho]; rfl)
      rw [this]
      obtain ⟨_, _, xs, h3, h4⟩ := hg.objs id _ ho
      rcases h3.2 with ⟨hn, h0⟩ | ⟨g, cap, cur, hvv, hgg, hh, c1, c2, c3, c4⟩
      · exact ⟨none, 0, by rw [hn, h0], .inl (List.eq_nil_of_length_eq_zero h0)⟩
      · exact ⟨_, cap, hvv, .inr ⟨g, 0, xs, rfl, fun j u hu => by rw [Nat.zero_add]; exact ownsRow_cells hh c4 j u hu, h4⟩⟩
    · cases h
  · cases h

/-- append: the value that comes back and the world. -/
theorem run_append_rows (hg : Good cx β K s a w) {P : Program} {T E : Nat} {te tE : TE} (ht : tabOf P T = some te) (hE : te.elem = some E) (htE : tabOf P E = some tE) (hsz : 0 < tE.size) {ty : TypeId}
    {v : Value} {n : Nat} {xs : List Value} (hown : w.ownsRow cx.N E tE.size v n xs) {v2 : Value} {new : List (List C)} {ok : Nat → Nat → Prop} (h2 : FlatIn w (Rep ok w) new v2) (hnew : ∀ r ∈ new, r.length = tE.size)
    (hb : (n + new.length) * tE.bytes ≤ 140737488355328) (hm : n + new.length ≤ 9223372036854775807) :
    ∃ v' w' ys, (Builtin.append_ #[T, T] ty #[v, v2]).run P w = .ok v' w' ∧ w'.ownsRow cx.N E tE.size v' (n + new.length) (xs ++ ys) ∧ w.grownBy w' v.ownBlock ∧
      (v'.ownBlock = v.ownBlock ∨ v'.ownBlock = some w.heap.size) ∧ All2 (Rep ok w) new.flatten ys := by
  obtain ⟨i, d, z, q1, q2, q3, q4, q5, q6, q7, q8, q9, q10, q11, q12, q13⟩ := tabOf_spec ht
  obtain ⟨i', d', z', p1, p2, p3, p4, p5, p6, p7, p8, p9, p10, p11, p12, p13⟩ := tabOf_spec htE
  rw [q11] at hE
  have hd : d = .slice E := by
    cases d <;> simp at hE
    rw [hE]
  subst hd
  obtain ⟨ao, cap, rfl, hr⟩ := h2
  by_cases h0 : new = []
  · subst h0
    refine ⟨v, w, [], ?_, by simpa using hown, ⟨rfl, rfl, rfl, Nat.le_refl _, fun _ _ _ => rfl⟩, .inl rfl, .nil⟩
    rcases hown.2 with ⟨rfl, hn⟩ | ⟨g, cap', cur, rfl, _, _, hcap, _⟩
    · cases ao <;> simp [Builtin.append_, run_underlying q2, sizeOf, typeInfo, p1, Builtin.lenOf, Builtin.firstCells, loadCells, loadCellsFrom]
    · cases ao <;> simp [Builtin.append_, run_underlying q2, sizeOf, typeInfo, p1, Builtin.lenOf, Builtin.firstCells, loadCells, loadCellsFrom, hcap, storeCells]
  · rcases hr with hr | ⟨b, off, ys, rfl, y3, y2⟩
    · exact absurd hr h0
    · have y1 : ys.length = new.length * i'.size := by rw [← y2.length, length_flatten new hnew, p6]
      obtain ⟨v', w', r1, r2, r3, r4, r5⟩ := run_append_own_at (P := P) w cx.N T ty E i' z' tE.size tE.bytes q2 p1 p3 p6.symm p7.symm (by rw [p4, p6]) hsz v n xs hown ⟨b, off, none⟩ new.length cap ys (by rw [y1, p6])
        (fun j u hu => by rw [Addr.add_mid]; exact y3 j u hu) (fun u hu => by
          obtain ⟨c, _, hc⟩ := y2.right u hu
          exact hc.oneCell) (by simp only [maxLen]; omega) hb hg.ext.size
      exact ⟨v', w', ys, r1, r2, r3, r5, y2⟩

theorem sound_append (hg : Good cx β K s a w) (hn : ¬ K nid) {o : Oper} {T T' : TypeId} {x y : Operand} (ho : o.op = .call { callee := .builtin .append, args := #[x, y], argTypes := #[T, T'] }) {e : Eff}
    (h : effOp cx.P nid (.call { callee := .builtin .append, args := #[x, y], argTypes := #[T, T'] }) s = some e) (hs : e.side) : Sound cx K nid s a w o e := by
  simp only [effOp] at h
  split at h
  · cases h
  rename_i hT
  have hT : T' = T := by
    by_cases e : T = T'
    · exact e.symm
    · exact absurd e hT
  subst hT
  split at h
  · rename_i te xv yv ht hx hy
    obtain ⟨hv, hw⟩ := ev_sound hg hx
    obtain ⟨hu, hwu⟩ := ev_sound hg hy
    split at h
    · rename_i E hE
      split at h
      · rename_i tE new f ids htE hrows
        split at h
        · rename_i hsz
          have hflat := rowsOf_flat hg hu hrows
          split at h
          · -- a nil slice
            cases h
            obtain ⟨s1, s2, s3⟩ := hs
            have hval : a.eval x = .slice none 0 0 := hv
            obtain ⟨v', w', ys, r1, r2, r3, r4, r5⟩ := run_append_rows (ty := o.type) hg ht hE htE hsz (World.ownsRow_nil w cx.N E tE.size) (n := 0) (xs := []) hflat s3 (by simpa using s1) (by simpa using s2)
            simp only [Nat.zero_add, List.nil_append] at r2
            have hbel : Below w.heap.size w w' := ⟨r3.os, r3.tape, r3.output, r3.size, fun k hk => r3.block k hk (by simp [Value.ownBlock])⟩
            have hbv : ∀ b, blkOf v' = some b → w.heap.size ≤ b := by
              intro b hb
              rw [ownBlock_of_own r2] at hb
              rcases r4 with r4 | r4 <;> rw [r4] at hb <;> simp [Value.ownBlock] at hb
              omega
            have hst := alloc_step hg hn (.row E tE.size new f) hbel hbv
            refine sound_alloc hg hn rfl (by simp only [execOp, ho, resolve, invoke, builtin, Sem.run_bind, Sem.run_pure, Result.andThen_ok, List.map_toArray, List.map_cons, List.map_nil, hval, r1]) hbel hbv trivial ?_ ?_ (.inr rfl)
            · exact ⟨hsz, s3, ys, r2, r5.mono fun x v h => hst.rep x v h⟩
            · refine ⟨?_, fun _ => by simp [upd]⟩
              rcases r2.2 with ⟨rfl, _⟩ | ⟨g, cap, cur, rfl, _⟩ <;> rfl
          · rename_i id
            split at h
            · rename_i e' sz' rows fr hob
              split at h
              · rename_i hc
                obtain ⟨rfl, rfl, hid⟩ := hc
                cases h
                obtain ⟨s1, s2, s3⟩ := hs
                have hval : a.eval x = β id := hv.2 (by rw [hob]; rfl)
                obtain ⟨_, r1', xs, h3, h4⟩ := hg.objs id _ hob
                obtain ⟨v', w', ys, r1, r2, r3, r4, r5⟩ := run_append_rows (ty := o.type) hg ht hE htE hsz h3 hflat s3 s1 s2
                have hkid := (hg.wf.heap id _ hob).1
                have hne : id ≠ nid := fun e => hn (e ▸ hkid)
                have hown : blkOf (β id) = (β id).ownBlock := ownBlock_of_own h3
                have hown' : blkOf v' = v'.ownBlock := ownBlock_of_own r2
                have hN : ∀ k, (β id).ownBlock = some k → cx.N ≤ k := fun k hk => (hg.blk hob (hown.trans hk)).1
                have hobj : ∀ j, (s.ups [(id, none), (nid, some (Ob.row e' tE.size (rows ++ new) (fr && f)))]).obj j = if j = nid then some (Ob.row e' tE.size (rows ++ new) (fr && f)) else if j = id then none else s.obj j := fun j => by
                  rw [AS.ups_cons, AS.obj_up, AS.obj_up]
                have hbel : Below cx.N w w' := ⟨r3.os, r3.tape, r3.output, r3.size, fun k hk => r3.block k (Nat.lt_of_lt_of_le hk hg.ext.size) (fun e => by have := hN k e.symm; omega)⟩
                have hst : Step cx K β s w (upd β nid v') (s.ups [(id, none), (nid, some (.row e' tE.size (rows ++ new) (fr && f)))]) w' := by
                  refine ⟨r3.size, fun k hk hm => r3.block k hk (fun e => hm (.inr ⟨id, _, hob, by rw [hown, ← e]⟩)), ?_, ?_⟩
                  · rintro b hlt (hb | ⟨j, oj, h1, h2⟩)
                    · exact .inl hb
                    · rw [hobj] at h1
                      by_cases e : j = nid
                      · subst e
                        simp [upd] at h2
                        rw [hown'] at h2
                        rcases r4 with r4 | r4
                        · exact .inr ⟨id, _, hob, by rw [hown, ← r4]; exact h2⟩
                        · rw [r4] at h2; cases h2; omega
                      · rw [if_neg e] at h1
                        by_cases e2 : j = id
                        · rw [if_pos e2] at h1; cases h1
                        · rw [if_neg e2] at h1
                          exact .inr ⟨j, oj, h1, by simpa [upd, e] using h2⟩
                  · intro j hk hl
                    have e : j ≠ nid := fun e => hn (e ▸ hk)
                    rw [hobj, if_neg e] at hl
                    by_cases e2 : j = id
                    · rw [if_pos e2] at hl; cases hl
                    · rw [if_neg e2] at hl
                      exact ⟨hl, by simp [upd, e]⟩
                refine ⟨v', w', .inl (by simp only [execOp, ho, resolve, invoke, builtin, Sem.run_bind, Sem.run_pure, Result.andThen_ok, List.map_toArray, List.map_cons, List.map_nil, hval, r1]), upd β nid v', ?_, ?_, .inr rfl⟩
                · refine hg.step hst (fun i h => .inl h) hbel rfl ?_ ?_
                  · intro j oj h
                    rw [hobj] at h
                    by_cases e : j = nid
                    · subst e
                      rw [if_pos rfl] at h; cases h
                      refine ⟨.inr rfl, trivial, hsz, ?_, xs ++ ys, ?_, ?_⟩
                      · intro r hr
                        rcases List.mem_append.1 hr with hr | hr
                        · exact r1' r hr
                        · exact s3 r hr
                      · rw [List.length_append]; simpa [upd] using r2
                      · rw [List.flatten_append]
                        exact (h4.mono fun x v h => (hst.rep x v h).weaken (fun _ h => h) (by simp +contextual)).append (r5.mono fun x v h => (hst.rep x v h).weaken (fun _ h => h) (by simp +contextual))
                    · rw [if_neg e] at h
                      by_cases e2 : j = id
                      · rw [if_pos e2] at h; cases h
                      · rw [if_neg e2] at h
                        have hk := hg.wf.heap j oj h
                        refine ⟨.inl hk.1, hk.2.mono fun i h => .inl h, ?_⟩
                        have hu' : upd β nid v' j = β j := by simp [upd, e]
                        rw [hu']
                        refine hst.gO hk.2 (fun b hbb => r3.block b (hg.blk h hbb).2.1 fun e3 => ?_) (hg.objs j oj h)
                        exact hg.inj j id oj _ h hob e2 b hbb (by rw [hown, ← e3])
                  · intro j j' o1 o2 h1 h2 hjj b hb1
                    rw [hobj] at h1 h2
                    have old : ∀ i oi, i ≠ nid → (if i = nid then some (Ob.row e' tE.size (rows ++ new) (fr && f)) else if i = id then none else s.obj i) = some oi → s.obj i = some oi ∧ i ≠ id ∧ upd β nid v' i = β i := by
                      intro i oi hi h
                      rw [if_neg hi] at h
                      by_cases e2 : i = id
                      · rw [if_pos e2] at h; cases h
                      · rw [if_neg e2] at h
                        exact ⟨h, e2, by simp [upd, hi]⟩
                    have clash : ∀ i oi, s.obj i = some oi → i ≠ id → ∀ b, blkOf (β i) = some b → blkOf v' ≠ some b := by
                      intro i oi hi hne' b hb hb'
                      rw [hown'] at hb'
                      rcases r4 with r4 | r4
                      · exact hg.inj i id oi _ hi hob hne' b hb (by rw [hown, ← r4]; exact hb')
                      · rw [r4] at hb'; cases hb'
                        have := (hg.blk hi hb).2.1
                        omega
                    by_cases e1 : j = nid
                    · subst e1
                      obtain ⟨p1, p2, p3⟩ := old j' o2 (Ne.symm hjj) h2
                      rw [p3]
                      intro hb2
                      have : blkOf v' = some b := by simpa [upd] using hb1
                      exact clash j' o2 p1 p2 b hb2 this
                    · obtain ⟨p1, p2, p3⟩ := old j o1 e1 h1
                      rw [p3] at hb1
                      by_cases e2 : j' = nid
                      · subst e2
                        intro hb2
                        exact clash j o1 p1 p2 b hb1 (by simpa [upd] using hb2)
                      · obtain ⟨p4, p5, p6⟩ := old j' o2 e2 h2
                        rw [p6]
                        exact hg.inj j j' o1 o2 p1 p4 hjj b hb1
                · refine ⟨?_, fun _ => by simp [upd]⟩
                  rcases r2.2 with ⟨rfl, _⟩ | ⟨g, cap, cur, rfl, _⟩ <;> rfl
              · cases h
            · cases h
          · cases h
        · cases h
      · cases h
    · cases h
  · cases h

end
end Go.Proofs.YtcaahmielncmpaaGreat

namespace Go.Proofs.YtcaahmielncmpaaGreat
open Go Go.RowKit

theorem fold_part (v : Array Value) (off : Nat) (cells : Array Value) (h : off + v.size ≤ cells.size) :
    (v.zipIdx.foldl (fun cs (x : Value × Nat) => cs.setIfInBounds (off + x.2) x.1) cells).toList = cells.toList.take off ++ v.toList ++ cells.toList.drop (off + v.size) := by
  rw [← Array.foldl_toList, Array.toList_zipIdx]
  obtain ⟨h1, h2⟩ := Great.foldl_set off v.toList 0 cells
  apply List.ext_getElem?
  intro j
  rw [Array.getElem?_toList, h2 j]
  simp only [Nat.add_zero, Array.length_toList, List.getElem?_append, List.getElem?_take, List.getElem?_drop, List.length_take, List.length_append]
  by_cases q1 : j < off
  · rw [if_neg (by omega), if_pos (by omega), if_pos (by omega), if_pos (by omega)]
    simp
  · by_cases q2 : j < off + v.size
    · rw [if_pos (by omega), if_pos (by omega), if_neg (by omega)]
      congr 1
      omega
    · rw [if_neg (by omega), if_neg (by omega)]
      simp only [Array.getElem?_toList]
      congr 1
      omega

theorem fill_cons {place : Nat → Option (Nat × Nat)} {cells : Array Value} {i : Nat} {v : Value} {rest : List (Nat × Value)} {off size : Nat} (hp : place i = some (off, size)) (hs : v.cells.size = size) (hl : off + size ≤ cells.size) :
    ∃ cells', Instr.fill place cells ((i, v) :: rest) = Instr.fill place cells' rest ∧ cells'.toList = cells.toList.take off ++ v.cells.toList ++ cells.toList.drop (off + size) := by
  refine ⟨v.cells.zipIdx.foldl (fun cs (x : Value × Nat) => cs.setIfInBounds (off + x.2) x.1) cells, ?_, by rw [← hs]; exact fold_part v.cells off cells (by omega)⟩
  conv => lhs; unfold Instr.fill
  simp only [hp]
  rw [if_neg (by simp [hs]; omega)]

section
variable {cx : Cx} {K : Nat → Prop} {β : Nat → Value} {s : AS} {a : Act} {w : World} {nid : Nat}

/-- The parts' values. -/
theorem evParts_sound (hg : Good cx β K s a w) : ∀ {ps : List (Nat × Operand)} {l : List (Nat × A1)}, s.evParts ps = some l →
    All2 (fun (x : Nat × A1) (y : Nat × Value) => x.1 = y.1 ∧ g1 cx β s w x.2 y.2 ∧ x.2.wf K) l (ps.map fun p => (p.1, a.eval p.2))
  | [], l, h => by
    simp only [AS.evParts, Option.some.injEq] at h
    subst h; exact .nil
  | (i, x) :: rest, l, h => by
    simp only [AS.evParts] at h
    split at h
    · rename_i y l' h1 h2
      cases h
      obtain ⟨h3, h4⟩ := ev_sound hg h1
      exact .cons ⟨rfl, h3, h4⟩ (evParts_sound hg h2)
    · cases h

theorem fillA_sound {place : Nat → Option (Nat × Nat)} {flds : List (Nat × Nat × Bool)} (hp : ∀ i off size ag, flds[i]? = some (off, size, ag) → place i = some (off, size)) :
    ∀ {l : List (Nat × A1)} {m : List (Nat × Value)} {cs cs' : List AC} {cells : Array Value},
      All2 (fun (x : Nat × A1) (y : Nat × Value) => x.1 = y.1 ∧ g1 cx β s w x.2 y.2 ∧ x.2.wf K) l m → All2 (gC cx β s w) cs cells.toList → (∀ x ∈ cs, x.wf K) → fillA flds l cs = some cs' →
      ∃ cells', Instr.fill place cells m = some cells' ∧ All2 (gC cx β s w) cs' cells'.toList ∧ ∀ x ∈ cs', x.wf K
  | [], [], cs, cs', cells, _, hc, hw, h => by
    simp only [fillA, Option.some.injEq] at h
    subst h
    exact ⟨cells, rfl, hc, hw⟩
  | (i, x) :: l, (j, v) :: m, cs, cs', cells, hl, hc, hw, h => by
    cases hl with
    | cons h0 hl =>
      obtain ⟨rfl, h1, h2⟩ := h0
      simp only [fillA] at h
      split at h
      · rename_i off size ag hf
        split at h
        · rename_i hcond
          have hcells := g1.cells h1
          have hs : v.cells.size = size := by rw [← hcond.1, hcells.1.length]; simp
          have hcl : cs.length = cells.size := by rw [hc.length]; simp
          obtain ⟨cells1, e1, e2⟩ := fill_cons (rest := m) (hp i off size ag hf) hs (cells := cells) (by omega)
          have hnew : All2 (gC cx β s w) (cs.take off ++ x.cells ++ cs.drop (off + size)) cells1.toList := by
            rw [e2]
            exact ((hc.take off).append hcells.1).append (hc.drop _)
          have hwn : ∀ y ∈ cs.take off ++ x.cells ++ cs.drop (off + size), y.wf K := by
            intro y hy
            simp only [List.append_assoc, List.mem_append] at hy
            rcases hy with hy | hy | hy
            · exact hw y (List.mem_of_mem_take hy)
            · exact A1.wf_cells h2 y hy
            · exact hw y (List.mem_of_mem_drop hy)
          rw [e1]
          exact fillA_sound hp hl hnew hwn h
        · cases h
      · cases h

theorem sound_build (hg : Good cx β K s a w) {o : Oper} {T : TypeId} {parts : Array (Nat × Operand)} (ho : o.op = .build T parts) {e : Eff} (h : effOp cx.P nid (.build T parts) s = some e) : Sound cx K nid s a w o e := by
  simp only [effOp] at h
  split at h
  · rename_i te ps ht hps
    split at h
    · rename_i cs hcs
      cases h
      split at hcs
      · rename_i hokf
        obtain ⟨i, d, z, q1, q2, q3, q4, q5, q6, q7, q8, q9, q10, q11, q12, q13⟩ := tabOf_spec ht
        rw [q13] at hokf
        have hd : ∃ fs, d = .struct fs := by
          cases d <;> first | exact ⟨_, rfl⟩ | simp at hokf
        obtain ⟨fs, rfl⟩ := hd
        simp only at hokf
        have hplaces : fs.toList.mapM (fun f => (cx.P.info? f.type).map fun i => (f.offset, i.size)) = some (fs.toList.map fun f => (f.offset, ((cx.P.info? f.type).map (·.size)).getD 0)) := by
          generalize fs.toList = l at hokf
          induction l with
          | nil => rfl
          | cons f l ih =>
            simp only [List.all_cons, Bool.and_eq_true] at hokf
            obtain ⟨ii, hii⟩ := Option.isSome_iff_exists.1 hokf.1
            simp [List.mapM_cons, ih hokf.2, hii]
        have hz : All2 (gC cx β s w) te.zero z.cells.toList := by
          rw [q8]
          refine All2.mk (by simp) fun i x v h1 h2 => ?_
          rw [List.getElem?_map, h2] at h1
          cases h1
          exact gC_acOf v ((List.all_eq_true.1 q5) v (List.mem_of_getElem? h2))
        have hzw : ∀ x ∈ te.zero, x.wf K := by
          rw [q8]
          intro x hx
          obtain ⟨y, _, rfl⟩ := List.mem_map.1 hx
          exact wf_acOf y
        obtain ⟨cells', c1, c2, c3⟩ := fillA_sound (place := ((fs.toList.map fun f => (f.offset, ((cx.P.info? f.type).map (·.size)).getD 0)).toArray[·]?)) (by
          intro i off size ag hf
          rw [q12] at hf
          simp only [List.getElem?_map] at hf
          obtain ⟨fd, h1, h2⟩ := Option.map_eq_some_iff.1 hf
          simp only [Prod.mk.injEq] at h2
          simp [h1, ← h2.1, ← h2.2.1]) (evParts_sound hg hps) hz hzw hcs
        refine sound_value hg rfl (v := .agg cells') ?_ ⟨cells'.toList, by simp, c2⟩ c3
        have hb : cx.P.built T ((parts.map fun (p : Nat × Operand) => (p.1, a.eval p.2)).toList) = some cells' := by
          simp only [Program.built, q1, q2, q3, hplaces, Array.toList_map]
          exact c1
        have hr := run_build (P := cx.P) w T _ cells' hb
        simp only [execOp, ho, Sem.run_bind, hr, Result.andThen_ok, Sem.run_pure]
      · cases hcs
    · cases h
  · cases h

theorem fillRows_sound (hg : Good cx β K s a w) {sz : Nat} {ids0 : List Nat} (hsub : ∀ id ∈ ids0, ∃ o, s.obj id = some o) :
    ∀ {l : List (Nat × A1)} {m : List (Nat × Value)} {rows rows' : List (List C)} {fr fr' : Bool} {ids : List Nat} {cells : Array Value},
      All2 (fun (x : Nat × A1) (y : Nat × Value) => x.1 = y.1 ∧ g1 cx β s w x.2 y.2 ∧ x.2.wf K) l m → (∀ r ∈ rows, r.length = sz) →
      All2 (Rep (okA cx.F (Mut cx β (s.ups (ids0.map (·, none)))) w fr) w) rows.flatten cells.toList → s.fillRows sz l rows fr = some (rows', fr', ids) → (∀ id ∈ ids, id ∈ ids0) →
      ∃ cells', Instr.fill (fun i => some (i * sz, sz)) cells m = some cells' ∧ cells'.size = cells.size ∧ rows'.length = rows.length ∧ (∀ r ∈ rows', r.length = sz) ∧
        All2 (Rep (okA cx.F (Mut cx β (s.ups (ids0.map (·, none)))) w fr') w) rows'.flatten cells'.toList
  | [], [], rows, rows', fr, fr', ids, cells, _, hr, hc, h, _ => by
    simp only [AS.fillRows, Option.some.injEq, Prod.mk.injEq] at h
    obtain ⟨rfl, rfl, rfl⟩ := h
    exact ⟨cells, rfl, rfl, rfl, hr, hc⟩
  | (i, x) :: l, (j, v) :: m, rows, rows', fr, fr', ids, cells, hl, hr, hc, h, hids => by
    cases hl with
    | cons h0 hl =>
      obtain ⟨rfl, h1, h2⟩ := h0
      simp only [AS.fillRows] at h
      split at h
      · rename_i cs f ids1 hres
        split at h
        · rename_i hcond
          split at h
          · rename_i rs f' ids2 hrest
            simp only [Option.some.injEq, Prod.mk.injEq] at h
            obtain ⟨rfl, rfl, rfl⟩ := h
            have hcells := g1.cells h1
            have hs : v.cells.size = sz := by rw [← hcond.1, resCs_length hres, hcells.1.length]; simp
            have hfl : rows.flatten.length = cells.size := by rw [hc.length]; simp
            have hfl2 := length_flatten rows hr
            have hmul : (i + 1) * sz ≤ rows.length * sz := Nat.mul_le_mul_right _ hcond.2
            rw [Nat.add_mul] at hmul
            obtain ⟨cells1, e1, e2⟩ := fill_cons (place := fun i => some (i * sz, sz)) (rest := m) (i := i) rfl hs (cells := cells) (by omega)
            have hrow : (rows.getD i []).length = sz := hr _ (by rw [List.getD_eq_getElem?_getD, List.getElem?_eq_getElem hcond.2]; exact List.getElem_mem hcond.2)
            have hset : rows.set i cs = rows.set i (splice (rows.getD i []) 0 cs) := by
              unfold splice
              rw [if_pos ⟨rfl, by rw [hcond.1, hrow]⟩]
            have hflat := flatten_store rows i 0 cs hr hcond.2 (by omega)
            rw [← hset] at hflat
            simp only [Nat.add_zero] at hflat
            have hnew : All2 (Rep (okA cx.F (Mut cx β (s.ups (ids0.map (·, none)))) w (fr && f)) w) (rows.set i cs).flatten cells1.toList := by
              rw [hflat, e2, hcond.1]
              have hcs := resCs_sound hg (M' := Mut cx β (s.ups (ids0.map (·, none)))) (fun b hb => mut_of_kill hb) hres hcells.1 (fun id hi => killed_not_mut hg hsub id (hids id (by simp [hi])))
              exact ((hc.take _).mono fun x v r => r.weaken (fun _ h => h) (by simp +contextual)) |>.append (hcs.mono fun x v r => r.weaken (fun _ h => h) (by simp +contextual)) |>.append ((hc.drop _).mono fun x v r => r.weaken (fun _ h => h) (by simp +contextual))
            have hr' : ∀ r ∈ rows.set i cs, r.length = sz := by
              intro r hr1
              rcases List.mem_or_eq_of_mem_set hr1 with hr1 | rfl
              · exact hr r hr1
              · exact hcond.1
            obtain ⟨cells', r1, r2, r3, r4, r5⟩ := fillRows_sound hg hsub hl hr' hnew hrest (fun id hi => hids id (by simp [hi]))
            refine ⟨cells', by rw [e1]; exact r1, ?_, by rw [r3, List.length_set], r4, r5⟩
            rw [r2, ← Array.length_toList, ← hnew.length, Go.Proofs.YtcaahmielncmpaaGreat.length_flatten _ hr', List.length_set, ← Go.Proofs.YtcaahmielncmpaaGreat.length_flatten rows hr, hc.length, Array.length_toList]
          · cases h
        · cases h
      · cases h

theorem fillRows_live : ∀ {sz : Nat} {l : List (Nat × A1)} {rows rows' : List (List C)} {fr fr' : Bool} {ids : List Nat}, s.fillRows sz l rows fr = some (rows', fr', ids) → ∀ id ∈ ids, ∃ o, s.obj id = some o
  | sz, [], rows, rows', fr, fr', ids, h => by
    simp only [AS.fillRows, Option.some.injEq, Prod.mk.injEq] at h
    obtain ⟨_, _, rfl⟩ := h
    simp
  | sz, (i, x) :: l, rows, rows', fr, fr', ids, h => by
    simp only [AS.fillRows] at h
    split at h
    · rename_i cs f ids1 hres
      split at h
      · split at h
        · rename_i rs f' ids2 hrest
          simp only [Option.some.injEq, Prod.mk.injEq] at h
          obtain ⟨rfl, rfl, rfl⟩ := h
          intro id hi
          rcases List.mem_append.1 hi with hi | hi
          · exact resCs_live hres id hi
          · exact fillRows_live hrest id hi
        · cases h
      · cases h
    · cases h

theorem sound_buildSlice (hg : Good cx β K s a w) (hn : ¬ K nid) {o : Oper} {T : TypeId} {n : Nat} {parts : Array (Nat × Operand)} (ho : o.op = .buildSlice T n parts) {e : Eff} (h : effOp cx.P nid (.buildSlice T n parts) s = some e) : Sound cx K nid s a w o e := by
  simp only [effOp] at h
  split at h
  · rename_i te ps ht hps
    split at h
    · rename_i E hE
      split at h
      · rename_i tE htE
        split at h
        · rename_i zr _ _ hzr
          split at h
          · rename_i rows fr ids hfr
            cases h
            split at hfr
            · rename_i hcond
              obtain ⟨i, d, z, q1, q2, q3, q4, q5, q6, q7, q8, q9, q10, q11, q12, q13⟩ := tabOf_spec ht
              obtain ⟨i', d', z', p1, p2, p3, p4, p5, p6, p7, p8, p9, p10, p11, p12, p13⟩ := tabOf_spec htE
              rw [q11] at hE
              have hd : d = .slice E := by
                cases d <;> simp at hE
                rw [hE]
              subst hd
              rw [p8] at hzr
              have hzl : zr.length = tE.size := by
                have := resCs_length hzr
                rw [this, List.length_map, Array.length_toList, p4, p6]
              have hzp : 0 < z'.cells.size := by rw [p4, ← p6]; exact hcond.1
              have hlive := fillRows_live hfr
              have hk := kill_good hg ids
              have hks := kill_step hg ids
              have hstart : All2 (Rep (okA cx.F (Mut cx β (s.ups (ids.map (·, none)))) w true) w) (List.replicate n zr).flatten (madeCells z'.cells (n * tE.size)).toList := by
                rw [p6, ← p4, madeCells_toList _ hzp]
                exact (zero_rep hg p5 hzr (fun b hb => mut_of_kill hb)).flatten_replicate _
              obtain ⟨cells', r1, r2, r3, r4, r5⟩ := fillRows_sound hg hlive (evParts_sound hg hps) (by
                intro r hr
                rw [(List.mem_replicate.1 hr).2]; exact hzl) hstart hfr (fun _ h => h)
              rw [List.length_replicate] at r3
              rw [size_madeCells] at r2
              have hrun : (Instr.buildSlice T n (parts.map fun (p : Nat × Operand) => (p.1, a.eval p.2))).run cx.P w = .ok (.slice (some ⟨w.heap.size, 0, none⟩) n n) (w.alloc (.cells cells' E)) := by
                have hsm : ¬ (n * i'.size > 2 ^ 24) := by rw [← p6]; have := hcond.2; omega
                by_cases h0 : n * i'.size = 0
                · have hn0 : n = 0 := by
                    rcases Nat.mul_eq_zero.1 h0 with h | h
                    · exact h
                    · rw [← p6] at h; omega
                  subst hn0
                  have hm0 : madeCells z'.cells (0 * tE.size) = #[] := by simp [madeCells]
                  rw [hm0, p6] at r1
                  simp [Instr.buildSlice, run_underlying q2, sizeOf, typeInfo, p1, newRow, Array.range_zero', r1]
                · refine run_buildSlice w T E n _ cells' i' z' q2 p1 p3 hsm h0 ?_
                  rw [Array.toList_map, ← p6]
                  exact r1
              have hnk : ¬ K nid := hn
              have hsn := sound_newRow (e := { val := .v (.one (.arr nid)), ups := [(nid, some (.row E tE.size rows fr))], rd := ids }) hk hnk (o := o) (cap := n) (cur := cells') rfl rfl (w0 := w) (.inl rfl)
                (by simp only [execOp, ho, Sem.run_bind, hrun, Result.andThen_ok, Sem.run_pure]; rfl) (by rw [r3]) hcond.1 r4 (by omega) (by
                  have h1 : n ≤ n * tE.size := Nat.le_mul_of_pos_right n hcond.1
                  simp only [maxLen]
                  have := hcond.2
                  omega) (by rw [r2]) (by
                  rw [r3, List.take_of_length_le (by simp [r2])]
                  exact r5)
              obtain ⟨v, w', hy, β', g1', g2, g3⟩ := hsn
              refine ⟨v, w', hy, β', ?_, ?_, g3⟩
              · dsimp only
                rw [AS.ups_append]; exact g1'
              · dsimp only
                rw [AS.ups_append]; exact g2
            · cases hfr
          · cases h
        · cases h
      · cases h
    · cases h
  · cases h

end
end Go.Proofs.YtcaahmielncmpaaGreat

namespace Go.Proofs.YtcaahmielncmpaaGreat
open Go Go.RowKit

/-! ## Calls -/
inductive RV where
  | v (x : IV)
  | tup (xs : List IV)
  | own (e sz : Nat) (rows : List (List C))
  /-- Data that are new if the arguments are new. -/
  | pass (x : IV)
  /-- Data and, last, a pointer that is nil or leads to a number and a row of numbers. -/
  | tupb (xs : List IV) (o : Option (Int × Nat × List Int))
  /-- Data that avoid the row that is the argument k: its own block need not be avoided by the arguments. -/
  | tupS (k : Nat) (xs : List IV)
def RV.sh : RV → Option Nat
  | .tupS k _ => some k
  | _ => none
def RV.isPass : RV → Bool
  | .pass _ => true
  | _ => false

def gR (N F : Nat) (M : Nat → Prop) (w : World) (fr : Bool) : RV → Value → Prop
  | .v x, v => gI F M w fr x v
  | .tup xs, v => ∃ vs : List Value, v = .tuple vs.toArray ∧ All2 (gI F M w fr) xs vs
  | .own e sz rows, v => 0 < sz ∧ (∀ r ∈ rows, r.length = sz) ∧ ∃ xs, w.ownsRow N e sz v rows.length xs ∧ All2 (Rep (okA F (fun b => M b ∨ blkOf v = some b) w fr) w) rows.flatten xs
  | .pass x, v => gI F M w true x v
  | .tupb xs o, v => ∃ (vs : List Value) (u : Value), v = .tuple (vs ++ [u]).toArray ∧ All2 (gI F M w fr) xs vs ∧ FB N M w o u
  | .tupS _ xs, v => ∃ vs : List Value, v = .tuple vs.toArray ∧ All2 (gI F M w fr) xs vs

/-- A row of which the own block is not asked about. -/
def gSA (M : Nat → Prop) (w : World) : IV → Value → Prop
  | .one (.slice rows), v => gSh M w rows v
  | _, _ => False
def AllSh {α β : Type} (R R' : α → β → Prop) : Nat → List α → List β → Prop
  | 0, a :: l, b :: m => R' a b ∧ All2 R l m
  | k + 1, a :: l, b :: m => R a b ∧ AllSh R R' k l m
  | _, _, _ => False
theorem AllSh.length {α β : Type} {R R' : α → β → Prop} : ∀ {k : Nat} {l : List α} {m : List β}, AllSh R R' k l m → l.length = m.length
  | 0, a :: l, b :: m, h => by simp [h.2.length]
  | k + 1, a :: l, b :: m, h => by simp [AllSh.length h.2]
  | 0, [], _, h => h.elim
  | _ + 1, [], _, h => h.elim
  | 0, _ :: _, [], h => h.elim
  | _ + 1, _ :: _, [], h => h.elim
theorem AllSh.get {α β : Type} {R R' : α → β → Prop} : ∀ {k : Nat} {l : List α} {m : List β}, AllSh R R' k l m → ∀ (i : Nat) (x : α), l[i]? = some x → ∃ y, m[i]? = some y ∧ (i = k → R' x y) ∧ (i ≠ k → R x y)
  | 0, a :: l, b :: m, h, 0, x, hx => by simp at hx; subst hx; exact ⟨b, rfl, fun _ => h.1, fun hn => (hn rfl).elim⟩
  | 0, a :: l, b :: m, h, i + 1, x, hx => by
    obtain ⟨y, h1, h2⟩ := h.2.get i x (by simpa using hx)
    exact ⟨y, by simpa using h1, fun e => by omega, fun _ => h2⟩
  | k + 1, a :: l, b :: m, h, 0, x, hx => by simp at hx; subst hx; exact ⟨b, rfl, fun e => by omega, fun _ => h.1⟩
  | k + 1, a :: l, b :: m, h, i + 1, x, hx => by
    obtain ⟨y, h1, h2, h3⟩ := AllSh.get h.2 i x (by simpa using hx)
    exact ⟨y, by simpa using h1, fun e => h2 (by omega), fun e => h3 (by omega)⟩
  | 0, [], _, h, _, _, _ => h.elim
  | _ + 1, [], _, h, _, _, _ => h.elim
  | 0, _ :: _, [], h, _, _, _ => h.elim
  | _ + 1, _ :: _, [], h, _, _, _ => h.elim
/-- What a contract asks of the arguments. -/
def ArgsG (r : RV) (F : Nat) (M : Nat → Prop) (w : World) (args : List IV) (vs : List Value) : Prop := match r.sh with
  | some k => AllSh (gI 0 M w false) (gSA M w) k args vs
  | none => All2 (gI F M w r.isPass) args vs

/-- A function that has a body, called by its name. -/
def Callable (P : Program) (f : FuncId) : Prop := ∀ (args : Array Value) (w : World), (callFunc f args).run P w = .ok (.enter f args) w

/-- The contract: whatever the blocks S that the arguments avoid, the call returns r, which avoids them too ('fr': r lies in new memory alone); what was there stays. -/
def ACalls (P : Program) (f : FuncId) (args : List IV) (r : RV) (fr : Bool) : Prop :=
  Callable P f ∧ ∀ (w : World) (S : Nat → Prop) (F : Nat) (vs : List Value), F ≤ w.heap.size → (r.isPass = false → F = w.heap.size) → (∀ b, S b → b < w.heap.size) → ArgsG r F S w args vs →
    Calls P f vs.toArray w fun e w' => ∃ v, e = .returned v ∧ gR w.heap.size F S w' fr r v ∧ Below w.heap.size w w'

/-- An argument as immutable data; the objects that are lent. -/
def AS.resIV (s : AS) : AV → Option (IV × List Nat)
  | .v (.one (.ptr id off)) => match s.obj id with
    | some (.box cells) => match s.resCs (cells.drop off) with
      | some (cs, _, ids) => some (.ro cs, id :: ids)
      | none => none
    | _ => none
  | .v (.one (.ro xs)) => some (.ro xs, [])
  | .v (.one x) => match s.resC x with
    | some (c, _, ids) => some (.one c, ids)
    | none => none
  | .v (.agg xs) => match s.resCs xs with
    | some (cs, _, ids) => some (.agg cs, ids)
    | none => none
  | _ => none

/-- Whether an argument is new. -/
def AS.frIV (s : AS) : AV → Bool
  | .v (.one (.ptr _ _)) => false
  | .v (.one (.ro _)) => false
  | .v (.one x) => match s.resC x with
    | some (_, f, _) => f
    | none => false
  | .v (.agg xs) => match s.resCs xs with
    | some (_, f, _) => f
    | none => false
  | _ => false
def AS.frArgs (s : AS) : List Operand → Bool
  | [] => true
  | x :: xs => (match s.ev x with
    | some av => s.frIV av
    | none => false) && s.frArgs xs

def AS.resArgs (s : AS) : List Operand → Option (List IV × List Nat)
  | [] => some ([], [])
  | x :: xs => match s.ev x with
    | some av => match s.resIV av, s.resArgs xs with
      | some (iv, ids), some (ivs, ids') => some (iv :: ivs, ids ++ ids')
      | _, _ => none
    | none => none

def ivAV (fr : Bool) : IV → Option A1
  | .one x => some (.one (.c x fr))
  | .agg xs => some (.agg (xs.map (.c · fr)))
  | .ro _ => none

def ivAVs (fr : Bool) : List IV → Option (List A1)
  | [] => some []
  | x :: xs => match ivAV fr x, ivAVs fr xs with
    | some y, some ys => some (y :: ys)
    | _, _ => none

def effCall (nid : Nat) (ids : List Nat) (fr : Bool) : RV → Option Eff
  | .v x => match ivAV fr x with
    | some y => some { val := .v y, ups := if fr then [] else ids.map (·, none), rd := ids }
    | none => none
  | .tup xs => match ivAVs fr xs with
    | some ys => some { val := .tup ys, ups := if fr then [] else ids.map (·, none), rd := ids }
    | none => none
  | .own e sz rows => some { val := .v (.one (.arr nid)), ups := (if fr then [] else ids.map (·, none)) ++ [(nid, some (.row e sz rows fr))], rd := ids }
  | .pass x => match ivAV true x with
    | some y => some { val := .v y, ups := ids.map (·, none), rd := ids }
    | none => none
  | .tupb xs o => match ivAVs fr xs with
    | some ys => some { val := .tup (ys ++ [.one (.fb o)]), ups := if fr then [] else ids.map (·, none), rd := ids }
    | none => none
  | .tupS _ xs => match ivAVs fr xs with
    | some ys => some { val := .tup ys, ups := [], rd := ids }
    | none => none

section
variable {cx : Cx} {K : Nat → Prop} {β : Nat → Value} {s : AS} {a : Act} {w : World} {nid : Nat}

/-- What the blocks that are lent are taken out of. -/
def Lent (cx : Cx) (β : Nat → Value) (s : AS) (ids : List Nat) (b : Nat) : Prop := Mut cx β s b ∧ ∀ id ∈ ids, blkOf (β id) ≠ some b

theorem okA0 {N : Nat} {M : Nat → Prop} {fr : Bool} {b off : Nat} (h : okA N M w fr b off) : okA 0 M w false b off := ⟨h.1, h.2.1, fun h => by cases h⟩

theorem okA_any {N N' : Nat} {M : Nat → Prop} {b off : Nat} (h : okA N M w false b off) : okA N' M w false b off := ⟨h.1, h.2.1, fun h => by cases h⟩
theorem gI_any {N N' : Nat} {M : Nat → Prop} {x : IV} {v : Value} (h : gI N M w false x v) : gI N' M w false x v := by
  cases x with
  | one x => exact h.mono (fun _ _ => okA_any) (fun _ _ _ _ _ h => h)
  | agg xs =>
    obtain ⟨vs, h1, h2⟩ := h
    exact ⟨vs, h1, h2.mono fun _ _ r => r.mono (fun _ _ => okA_any) (fun _ _ _ _ _ h => h)⟩
  | ro xs =>
    obtain ⟨b, off, h1, h2, h3, h4⟩ := h
    exact ⟨b, off, h1, h2, h3, h4.mono (fun _ _ => okA_any) (fun _ _ _ _ _ h => h) (fun _ _ h => h)⟩
theorem resIV_soundF (hg : Good cx β K s a w) {av : AV} {v : Value} (hv : gV cx β s w av v) {iv : IV} {ids ids0 : List Nat} (h : s.resIV av = some (iv, ids)) (hf : s.frIV av = true) (hsub : ∀ id ∈ ids, id ∈ ids0) :
    gI cx.F (Lent cx β s ids0) w true iv v := by
  have hM : ∀ b, Lent cx β s ids0 b → Mut cx β s b := fun b h => h.1
  unfold AS.resIV at h
  unfold AS.frIV at hf
  split at h
  · cases hf
  · cases hf
  · rename_i x h1 h2
    have hf' : (match s.resC x with
      | some (_, f, _) => f
      | none => false) = true := by
      cases x <;> first | exact hf | (exact (h1 _ _ rfl).elim) | (exact (h2 _ rfl).elim)
    split at h
    · rename_i c f ids1 hres
      simp only [Option.some.injEq, Prod.mk.injEq] at h
      obtain ⟨rfl, rfl⟩ := h
      rw [hres] at hf'
      dsimp only at hf'
      subst hf'
      exact resC_sound hg hres hv (M' := Lent cx β s ids0) hM (fun i hi b hb hl => hl.2 i (hsub i hi) hb)
    · cases h
  · rename_i xs
    split at h
    · rename_i cs f ids1 hres
      simp only [Option.some.injEq, Prod.mk.injEq] at h
      obtain ⟨rfl, rfl⟩ := h
      simp only [hres] at hf
      subst hf
      obtain ⟨vs, h1, h2⟩ := hv
      exact ⟨vs, h1, resCs_sound hg (M' := Lent cx β s ids0) hM hres h2 (fun i hi b hb hl => hl.2 i (hsub i hi) hb)⟩
    · cases h
  · cases h

theorem resIV_sound (hg : Good cx β K s a w) {av : AV} {v : Value} (hv : gV cx β s w av v) (hw : av.wf K) {iv : IV} {ids ids0 : List Nat} (h : s.resIV av = some (iv, ids)) (hsub : ∀ id ∈ ids, id ∈ ids0) :
    gI 0 (Lent cx β s ids0) w false iv v := by
  have hM : ∀ b, Lent cx β s ids0 b → Mut cx β s b := fun b h => h.1
  unfold AS.resIV at h
  split at h
  · rename_i id off
    split at h
    · rename_i cells hob
      split at h
      · rename_i cs f ids1 hres
        simp only [Option.some.injEq, Prod.mk.injEq] at h
        obtain ⟨rfl, rfl⟩ := h
        obtain ⟨b, T', vs, h1, h2, h3, h4⟩ := hg.objs id _ hob
        obtain ⟨b', h5, h6⟩ := hv.2 (by rw [hob]; rfl)
        rw [h1] at h5
        simp [blkOf] at h5
        subst h5
        refine ⟨b, off, h6, (Array.getElem?_eq_some_iff.1 h3).1, fun hl => hl.2 id (hsub id (by simp)) (by rw [h1]; rfl), ?_⟩
        have := resCs_sound hg (M' := Lent cx β s ids0) hM hres (h4.drop off) (fun i hi b hb hl => hl.2 i (hsub i (by simp [hi])) hb)
        refine RepRow.mk fun j c hj => ?_
        obtain ⟨u, h7, h8⟩ := this.get j c hj
        refine ⟨u, ?_, h8.mono (fun _ _ h => okA0 h) (fun _ _ _ _ _ h => h)⟩
        rw [List.getElem?_drop] at h7
        simp [World.cell?, h3]
        simpa using h7
      · cases h
    · cases h
  · rename_i xs
    simp only [Option.some.injEq, Prod.mk.injEq] at h
    obtain ⟨rfl, rfl⟩ := h
    obtain ⟨b, off, h1, h2, h3, h4⟩ := hv
    exact ⟨b, off, h1, h2, fun hl => h3 hl.1, h4.mono (fun b off ho => (okA0 ho).weaken (fun b h => h.1) (fun h => h)) (fun _ _ _ _ _ h => h) (fun _ _ h => h)⟩
  · rename_i x _ _
    split at h
    · rename_i c f ids1 hres
      simp only [Option.some.injEq, Prod.mk.injEq] at h
      obtain ⟨rfl, rfl⟩ := h
      have := resC_sound hg hres hv (M' := Lent cx β s ids0) hM (fun i hi b hb hl => hl.2 i (hsub i hi) hb)
      exact this.mono (fun _ _ h => okA0 h) (fun _ _ _ _ _ h => h)
    · cases h
  · rename_i xs
    split at h
    · rename_i cs f ids1 hres
      simp only [Option.some.injEq, Prod.mk.injEq] at h
      obtain ⟨rfl, rfl⟩ := h
      obtain ⟨vs, h1, h2⟩ := hv
      have := resCs_sound hg (M' := Lent cx β s ids0) hM hres h2 (fun i hi b hb hl => hl.2 i (hsub i hi) hb)
      exact ⟨vs, h1, this.mono fun _ _ r => r.mono (fun _ _ h => okA0 h) (fun _ _ _ _ _ h => h)⟩
    · cases h
  · cases h

theorem resIV_live {av : AV} {iv : IV} {ids : List Nat} (h : s.resIV av = some (iv, ids)) : ∀ id ∈ ids, ∃ o, s.obj id = some o := by
  unfold AS.resIV at h
  split at h
  · rename_i id off
    split at h
    · rename_i cells hob
      split at h
      · rename_i cs f ids1 hres
        simp only [Option.some.injEq, Prod.mk.injEq] at h
        obtain ⟨rfl, rfl⟩ := h
        intro i hi
        rcases List.mem_cons.1 hi with rfl | hi
        · exact ⟨_, hob⟩
        · exact resCs_live hres i hi
      · cases h
    · cases h
  · simp only [Option.some.injEq, Prod.mk.injEq] at h
    obtain ⟨rfl, rfl⟩ := h
    simp
  · split at h
    · rename_i c f ids1 hres
      simp only [Option.some.injEq, Prod.mk.injEq] at h
      obtain ⟨rfl, rfl⟩ := h
      exact resC_live hres
    · cases h
  · split at h
    · rename_i cs f ids1 hres
      simp only [Option.some.injEq, Prod.mk.injEq] at h
      obtain ⟨rfl, rfl⟩ := h
      exact resCs_live hres
    · cases h
  · cases h

theorem resArgs_sound (hg : Good cx β K s a w) {ids0 : List Nat} : ∀ {xs : List Operand} {ivs : List IV} {ids : List Nat}, s.resArgs xs = some (ivs, ids) → (∀ id ∈ ids, id ∈ ids0) → All2 (gI 0 (Lent cx β s ids0) w false) ivs (xs.map a.eval)
  | [], ivs, ids, h, _ => by
    simp only [AS.resArgs, Option.some.injEq, Prod.mk.injEq] at h
    obtain ⟨rfl, rfl⟩ := h
    exact .nil
  | x :: xs, ivs, ids, h, hsub => by
    simp only [AS.resArgs] at h
    split at h
    · rename_i av hx
      split at h
      · rename_i iv ids1 ivs2 ids2 h1 h2
        simp only [Option.some.injEq, Prod.mk.injEq] at h
        obtain ⟨rfl, rfl⟩ := h
        obtain ⟨h3, h4⟩ := ev_sound hg hx
        exact .cons (resIV_sound hg h3 h4 h1 fun id hi => hsub id (by simp [hi])) (resArgs_sound hg h2 fun id hi => hsub id (by simp [hi]))
      · cases h
    · cases h

theorem resArgs_soundF (hg : Good cx β K s a w) {ids0 : List Nat} : ∀ {xs : List Operand} {ivs : List IV} {ids : List Nat}, s.resArgs xs = some (ivs, ids) → s.frArgs xs = true → (∀ id ∈ ids, id ∈ ids0) → All2 (gI cx.F (Lent cx β s ids0) w true) ivs (xs.map a.eval)
  | [], ivs, ids, h, _, _ => by
    simp only [AS.resArgs, Option.some.injEq, Prod.mk.injEq] at h
    obtain ⟨rfl, rfl⟩ := h
    exact .nil
  | x :: xs, ivs, ids, h, hf, hsub => by
    simp only [AS.resArgs] at h
    simp only [AS.frArgs, Bool.and_eq_true] at hf
    split at h
    · rename_i av hx
      rw [hx] at hf
      split at h
      · rename_i iv ids1 ivs2 ids2 h1 h2
        simp only [Option.some.injEq, Prod.mk.injEq] at h
        obtain ⟨rfl, rfl⟩ := h
        obtain ⟨h3, h4⟩ := ev_sound hg hx
        exact .cons (resIV_soundF hg h3 h1 hf.1 fun id hi => hsub id (by simp [hi])) (resArgs_soundF hg h2 hf.2 fun id hi => hsub id (by simp [hi]))
      · cases h
    · cases h

theorem resArgs_live : ∀ {xs : List Operand} {ivs : List IV} {ids : List Nat}, s.resArgs xs = some (ivs, ids) → ∀ id ∈ ids, ∃ o, s.obj id = some o
  | [], ivs, ids, h => by
    simp only [AS.resArgs, Option.some.injEq, Prod.mk.injEq] at h
    obtain ⟨rfl, rfl⟩ := h
    simp
  | x :: xs, ivs, ids, h => by
    simp only [AS.resArgs] at h
    split at h
    · rename_i av hx
      split at h
      · rename_i iv ids1 ivs2 ids2 h1 h2
        simp only [Option.some.injEq, Prod.mk.injEq] at h
        obtain ⟨rfl, rfl⟩ := h
        intro id hi
        rcases List.mem_append.1 hi with hi | hi
        · exact resIV_live h1 id hi
        · exact resArgs_live h2 id hi
      · cases h
    · cases h

/-- What comes back avoids what may be written, if the objects that were lent are let go, or if it lies in new memory. -/
theorem call_ok (hg : Good cx β K s a w) {ids : List Nat} (hl : ∀ id ∈ ids, ∃ o, s.obj id = some o) {w' : World} (hb : Below w.heap.size w w') {fr : Bool} {b off : Nat} (h : okA w.heap.size (Lent cx β s ids) w' fr b off) :
    okA cx.F (Mut cx β (s.ups (if fr then [] else ids.map (·, none)))) w' fr b off := by
  refine ⟨h.1, fun hm => ?_, fun hf => ?_⟩
  · cases fr with
    | true =>
      simp only [if_true, AS.ups_nil] at hm
      have h1 := (h.2.2 rfl).1
      have := hg.mut_lt hm
      omega
    | false =>
      simp only [Bool.false_eq_true, if_false] at hm
      refine h.2.1 ⟨mut_of_kill hm, fun id hi hbb => killed_not_mut hg hl id hi b hbb hm⟩
  · obtain ⟨h1, h2, h3⟩ := h.2.2 hf
    exact ⟨Nat.le_trans (Nat.le_trans hg.fb hg.ext.size) h1, h2, h3⟩

theorem pass_ok (hg : Good cx β K s a w) {ids : List Nat} (hl : ∀ id ∈ ids, ∃ o, s.obj id = some o) {w' : World} {b off : Nat} (h : okA cx.F (Lent cx β s ids) w' true b off) :
    okA cx.F (Mut cx β (s.ups (ids.map (·, none)))) w' true b off :=
  ⟨h.1, fun hm => h.2.1 ⟨mut_of_kill hm, fun id hi hbb => killed_not_mut hg hl id hi b hbb hm⟩, h.2.2⟩

theorem argsG_of {r : RV} {F : Nat} {M : Nat → Prop} {ivs : List IV} {vs : List Value} (hs : r.sh = none) (hp : r.isPass = false) (h : All2 (gI 0 M w false) ivs vs) : ArgsG r F M w ivs vs := by
  unfold ArgsG
  rw [hs, hp]
  exact h.mono fun _ _ h => gI_any h

/-- An argument in which nothing of the call's own is lent. -/
def AS.flat0 (s : AS) (x : Operand) : Bool := match s.ev x with
  | some av => (match s.resIV av with
    | some (_, ids) => ids.isEmpty
    | none => false)
  | none => false
def AS.shOK (s : AS) : Nat → List Operand → Bool
  | 0, x :: xs => (match s.ev x with
    | some (.v (.one (.arr _))) => true
    | _ => false) && xs.all s.flat0
  | k + 1, x :: xs => s.flat0 x && s.shOK k xs
  | _, [] => false

theorem flat0_sound (hg : Good cx β K s a w) {x : Operand} (h : s.flat0 x = true) {av : AV} (hx : s.ev x = some av) {iv : IV} {ids : List Nat} (hr : s.resIV av = some (iv, ids)) : gI 0 (Lent cx β s []) w false iv (a.eval x) := by
  unfold AS.flat0 at h
  rw [hx] at h
  simp only [hr, List.isEmpty_iff] at h
  subst h
  obtain ⟨h3, h4⟩ := ev_sound hg hx
  exact resIV_sound hg h3 h4 hr fun _ h => h

theorem shArgs_sound (hg : Good cx β K s a w) : ∀ {k : Nat} {xs : List Operand} {ivs : List IV} {ids : List Nat}, s.resArgs xs = some (ivs, ids) → s.shOK k xs = true → AllSh (gI 0 (Lent cx β s []) w false) (gSA (Lent cx β s []) w) k ivs (xs.map a.eval)
  | 0, x :: xs, ivs, ids, h, hs => by
    simp only [AS.shOK, Bool.and_eq_true] at hs
    simp only [AS.resArgs] at h
    split at h
    · rename_i av hx
      split at h
      · rename_i iv ids1 ivs2 ids2 h1 h2
        simp only [Option.some.injEq, Prod.mk.injEq] at h
        obtain ⟨rfl, rfl⟩ := h
        rw [hx] at hs
        refine ⟨?_, ?_⟩
        · obtain ⟨hs, _⟩ := hs
          split at hs
          · rename_i id hav
            cases hav
            simp only [AS.resIV, AS.resC] at h1
            obtain ⟨h3, h4⟩ := ev_sound hg hx
            split at h1
            · rename_i c f ids3 hc
              split at hc
              · rename_i e sz rows fr hob
                cases hc
                cases h1
                have hval := h3.2 (by rw [hob]; rfl)
                show gSh (Lent cx β s []) w rows _
                rw [hval]
                obtain ⟨k1, k2, us, k3, k4⟩ := hg.objs id _ hob
                rcases k3.2 with ⟨hn, h0⟩ | ⟨g, cap, cur, hv, hgg, hh, r1, r2, r3, r4⟩
                · exact ⟨none, 0, by rw [hn, h0], by omega, .inl (List.eq_nil_of_length_eq_zero h0)⟩
                · refine ⟨_, cap, hv, r1, .inr ⟨g, 0, sz, rfl, (Array.getElem?_eq_some_iff.1 hh).1, ?_⟩⟩
                  refine RepRows.of_flat k2 (k4.mono fun x v hr => hr.mono (fun b off ho => ⟨ho.1, fun hl => ho.2.1 hl.1, fun h => by cases h⟩) (fun _ _ _ _ _ h => h)) fun j u hu => ?_
                  rw [Nat.zero_add]
                  exact ownsRow_cells hh r4 j u hu
              · cases hc
            · cases h1
          · cases hs
        · replace hs := hs.2
          clear h1 hx
          induction xs generalizing ivs2 ids2 with
          | nil =>
            simp only [AS.resArgs, Option.some.injEq, Prod.mk.injEq] at h2
            obtain ⟨rfl, rfl⟩ := h2
            exact .nil
          | cons y ys ih =>
            simp only [AS.resArgs] at h2
            simp only [List.all_cons, Bool.and_eq_true] at hs
            split at h2
            · rename_i av hy
              split at h2
              · rename_i iv3 ids3 ivs4 ids4 h5 h6
                simp only [Option.some.injEq, Prod.mk.injEq] at h2
                obtain ⟨rfl, rfl⟩ := h2
                exact .cons (flat0_sound hg hs.1 hy h5) (ih _ _ h6 hs.2)
              · cases h2
            · cases h2
      · cases h
    · cases h
  | k + 1, x :: xs, ivs, ids, h, hs => by
    simp only [AS.shOK, Bool.and_eq_true] at hs
    simp only [AS.resArgs] at h
    split at h
    · rename_i av hx
      split at h
      · rename_i iv ids1 ivs2 ids2 h1 h2
        simp only [Option.some.injEq, Prod.mk.injEq] at h
        obtain ⟨rfl, rfl⟩ := h
        exact ⟨flat0_sound hg hs.1 hx h1, shArgs_sound hg h2 hs.2⟩
      · cases h
    · cases h
  | 0, [], _, _, _, hs => by cases hs
  | _ + 1, [], _, _, _, hs => by cases hs

theorem sound_enter (hg : Good cx β K s a w) (hn : ¬ K nid) {o : Oper} {f : FuncId} {vs : List Value} (hrun : (execOp a.eval o).run cx.P w = .ok (.enter f vs.toArray) w)
    {ivs : List IV} {ids : List Nat} (hlive : ∀ id ∈ ids, ∃ o, s.obj id = some o) {r : RV} {fr : Bool} (hargsV : r.isPass = false → ArgsG r w.heap.size (Lent cx β s ids) w ivs vs) (hpass : r.isPass = true → All2 (gI cx.F (Lent cx β s ids) w true) ivs vs) (hA : ACalls cx.P f ivs r fr) {e : Eff} (he : effCall nid ids fr r = some e) (hids : r.sh ≠ none → ids = [])
    {next : Act → World → Prop} {Q : Exit → Act → World → Prop} (hnext : ∀ v w', Post cx K nid s a e v w' → next (a.put o.dst v) w') : o.wp cx.P a w next Q := by
  have hups : ∀ {k : Nat} {xs : List IV}, r = .tupS k xs → (if fr then [] else ids.map (·, none) : List (Nat × Option Ob)) = [] := fun h => by
    subst h
    rw [hids (by simp [RV.sh])]
    cases fr <;> rfl
  unfold Oper.wp
  rw [hrun]
  simp only [Oper.upon]
  cases hps : r.isPass with
  | true =>
    refine (hA.2 w (Lent cx β s ids) cx.F _ (Nat.le_trans hg.fb hg.ext.size) (fun h => by rw [hps] at h; cases h) (fun b hb => hg.mut_lt hb.1) (by cases r with
      | pass x => exact hpass rfl
      | _ => cases hps)).mono ?_
    rintro en w' ⟨v, rfl, hr, hb⟩
    refine hnext v w' ?_
    obtain ⟨hgw, hst⟩ := hg.world hb
    cases r with
    | pass x =>
      simp only [effCall] at he
      split at he
      · rename_i y hy
        cases he
        have hok := fun (b off : Nat) => pass_ok hg hlive (w' := w') (b := b) (off := off)
        refine ⟨β, (kill_good hgw ids).monoK fun _ h => .inl h, ?_, ?_⟩
        · cases x with
          | one c => simp only [ivAV, Option.some.injEq] at hy; subst hy; exact hr.mono hok (fun _ _ _ _ _ h => h)
          | agg cs =>
            simp only [ivAV, Option.some.injEq] at hy; subst hy
            obtain ⟨vs, h1, h2⟩ := hr
            exact ⟨vs, h1, All2.map_left (fun x => AC.c x true) (h2.mono fun x v h => h.mono hok (fun _ _ _ _ _ h => h))⟩
          | ro cs => cases hy
        · cases x with
          | one c => simp only [ivAV, Option.some.injEq] at hy; subst hy; trivial
          | agg cs =>
            simp only [ivAV, Option.some.injEq] at hy; subst hy
            intro x hx
            obtain ⟨z, _, rfl⟩ := List.mem_map.1 hx
            trivial
          | ro cs => cases hy
      · cases he
    | _ => cases hps
  | false =>
  refine (hA.2 w (Lent cx β s ids) w.heap.size _ (Nat.le_refl _) (fun _ => rfl) (fun b hb => hg.mut_lt hb.1) (hargsV hps)).mono ?_
  rintro en w' ⟨v, rfl, hr, hb⟩
  refine hnext v w' ?_
  obtain ⟨hgw, hst⟩ := hg.world hb
  have hok := fun (b off : Nat) => call_ok hg hlive hb (fr := fr) (b := b) (off := off)
  -- the state behind the objects that are let go
  have hg1 : Good cx β K (s.ups (if fr then [] else ids.map (·, none))) a w' := by
    cases fr with
    | true => simpa [AS.ups_nil] using hgw
    | false => exact kill_good hgw ids
  have key : ∀ {xs : List IV} {ys : List A1} {vs : List Value}, ivAVs fr xs = some ys → All2 (gI w.heap.size (Lent cx β s ids) w' fr) xs vs →
      All2 (g1 cx β (s.ups (if fr then [] else ids.map (·, none))) w') ys vs ∧ ∀ y ∈ ys, y.wf (also K nid) := by
    intro xs
    induction xs with
    | nil =>
      intro ys vs h1 h2
      simp only [ivAVs, Option.some.injEq] at h1
      subst h1
      cases h2
      exact ⟨.nil, by simp⟩
    | cons x xs ih =>
      intro ys vs h1 h2
      simp only [ivAVs] at h1
      split at h1
      · rename_i y ys' hy hys
        cases h1
        cases h2 with
        | cons h3 h4 =>
          obtain ⟨i1, i2⟩ := ih hys h4
          cases x with
          | one c =>
            simp only [ivAV, Option.some.injEq] at hy; subst hy
            refine ⟨.cons (Rep.mono hok (fun _ _ _ _ _ h => h) _ _ h3) i1, fun z hz => ?_⟩
            rcases List.mem_cons.1 hz with rfl | hz
            · trivial
            · exact i2 z hz
          | agg cs =>
            simp only [ivAV, Option.some.injEq] at hy; subst hy
            obtain ⟨us, h5, h6⟩ := h3
            refine ⟨.cons ⟨us, h5, All2.map_left (fun x => AC.c x fr) (h6.mono fun x v h => h.mono hok (fun _ _ _ _ _ h => h))⟩ i1, fun z hz => ?_⟩
            rcases List.mem_cons.1 hz with rfl | hz
            · intro u hu
              obtain ⟨q, _, rfl⟩ := List.mem_map.1 hu
              trivial
            · exact i2 z hz
          | ro cs => cases hy
      · cases h1
  cases r with
  | v x =>
    simp only [effCall] at he
    split at he
    · rename_i y hy
      cases he
      refine ⟨β, hg1.monoK fun _ h => .inl h, ?_, ?_⟩
      · cases x with
        | one c => simp only [ivAV, Option.some.injEq] at hy; subst hy; exact hr.mono hok (fun _ _ _ _ _ h => h)
        | agg cs =>
          simp only [ivAV, Option.some.injEq] at hy; subst hy
          obtain ⟨vs, h1, h2⟩ := hr
          exact ⟨vs, h1, All2.map_left (fun x => AC.c x fr) (h2.mono fun x v h => h.mono hok (fun _ _ _ _ _ h => h))⟩
        | ro cs => cases hy
      · cases x with
        | one c => simp only [ivAV, Option.some.injEq] at hy; subst hy; trivial
        | agg cs =>
          simp only [ivAV, Option.some.injEq] at hy; subst hy
          intro x hx
          obtain ⟨z, _, rfl⟩ := List.mem_map.1 hx
          trivial
        | ro cs => cases hy
    · cases he
  | tup xs =>
    simp only [effCall] at he
    split at he
    · rename_i ys hys
      cases he
      obtain ⟨vs, h1, h2⟩ := hr
      obtain ⟨k1, k2⟩ := key hys h2
      exact ⟨β, hg1.monoK fun _ h => .inl h, ⟨vs, h1, k1⟩, k2⟩
    · cases he
  | own E sz rows =>
    simp only [effCall, Option.some.injEq] at he
    subst he
    obtain ⟨h1, h2, xs, h3, h4⟩ := hr
    -- a new object, whose row lies in new memory
    have hbv : ∀ b, blkOf v = some b → w.heap.size ≤ b := by
      intro b hbb
      rcases h3.2 with ⟨rfl, _⟩ | ⟨g, cap, cur, rfl, hgg, _⟩
      · simp [blkOf] at hbb
      · simp [blkOf] at hbb; omega
    have hs1 : Good cx β K (s.ups (if fr then [] else ids.map (·, none))) a w := by
      cases fr with
      | true => simpa [AS.ups_nil] using hg
      | false => exact kill_good hg ids
    have hst' := alloc_step hs1 hn (.row E sz rows fr) hb hbv
    have hgood := alloc_good (o := .row E sz rows fr) hs1 hn hb hbv trivial (by
      refine ⟨h1, h2, xs, ?_, ?_⟩
      · refine ⟨h3.1, ?_⟩
        rcases h3.2 with hnn | ⟨g, cap, cur, rfl, hgg, rest⟩
        · exact .inl hnn
        · exact .inr ⟨g, cap, cur, rfl, Nat.le_trans hg.ext.size hgg, rest⟩
      · refine h4.mono fun x v' h => h.mono (fun b off ho => ?_) (fun _ _ _ _ _ h => h)
        have h5 := hok b off (ho.weaken (fun b h => .inl h) (fun h => h))
        refine ⟨h5.1, fun hm => ?_, h5.2.2⟩
        rcases hm with hm | ⟨i, oi, m1, m2⟩
        · exact h5.2.1 (.inl hm)
        · rw [AS.obj_up] at m1
          by_cases e : i = nid
          · subst e
            exact ho.2.1 (.inr (by simpa [upd] using m2))
          · rw [if_neg e] at m1
            exact h5.2.1 (.inr ⟨i, oi, m1, by simpa [upd, e] using m2⟩))
    refine ⟨upd β nid v, by dsimp only; rw [AS.ups_append]; exact hgood, ?_, .inr rfl⟩
    dsimp only
    rw [AS.ups_append]
    refine ⟨?_, fun _ => by simp [upd]⟩
    rcases h3.2 with ⟨rfl, _⟩ | ⟨g, cap, cur, rfl, _⟩ <;> rfl
  | pass x => cases hps
  | tupS k xs =>
    simp only [effCall] at he
    split at he
    · rename_i ys hys
      cases he
      obtain ⟨vs, h1, h2⟩ := hr
      obtain ⟨k1, k2⟩ := key hys h2
      rw [hups rfl] at hg1 k1
      exact ⟨β, hg1.monoK fun _ h => .inl h, ⟨vs, h1, k1⟩, k2⟩
    · cases he
  | tupb xs fo =>
    simp only [effCall] at he
    split at he
    · rename_i ys hys
      cases he
      obtain ⟨vs, u, h1, h2, h3⟩ := hr
      obtain ⟨k1, k2⟩ := key hys h2
      refine ⟨β, hg1.monoK fun _ h => .inl h, ⟨vs ++ [u], h1, All2.append k1 (.cons ?_ .nil)⟩, fun y hy => ?_⟩
      · refine FB.keep hg.ext.size (fun _ _ _ => rfl) (fun k hk _ hm => ?_) h3
        have : Mut cx β s k := by
          cases fr with
          | true => simpa [AS.ups_nil] using hm
          | false => exact mut_of_kill (by simpa using hm)
        have := hg.mut_lt this
        omega
      · rcases List.mem_append.1 hy with hy | hy
        · exact k2 y hy
        · simp at hy; subst hy; trivial
    · cases he


theorem sound_call (hg : Good cx β K s a w) (hn : ¬ K nid) {o : Oper} {f : FuncId} {args : Array Operand} {ts : Array TypeId} (ho : o.op = .call { callee := .value (.func f), args := args, argTypes := ts })
    {ivs : List IV} {ids : List Nat} (hargs : s.resArgs args.toList = some (ivs, ids)) {r : RV} {fr : Bool} (hpass : r.isPass = true → s.frArgs args.toList = true) (hsh : ∀ k, r.sh = some k → s.shOK k args.toList = true) (hA : ACalls cx.P f ivs r fr) {e : Eff} (he : effCall nid ids fr r = some e)
    {next : Act → World → Prop} {Q : Exit → Act → World → Prop} (hnext : ∀ v w', Post cx K nid s a e v w' → next (a.put o.dst v) w') : o.wp cx.P a w next Q := by
  have hrun : (execOp a.eval o).run cx.P w = .ok (.enter f (args.toList.map a.eval).toArray) w := by
    have hc := hA.1
    simp only [execOp, ho, resolve, Sem.run_bind, Act.eval, Deferred.ofValue, Sem.run_pure, Result.andThen_ok, invoke]
    rw [show (#[] ++ Array.map a.eval args ++ #[] : Array Value) = (args.toList.map a.eval).toArray from Array.ext' (by simp)]
    exact hc _ _
  cases hs : r.sh with
  | none => exact sound_enter hg hn hrun (resArgs_live hargs) (fun hp => argsG_of hs hp (resArgs_sound hg (ids0 := ids) hargs (fun _ h => h))) (fun h => resArgs_soundF hg (ids0 := ids) hargs (hpass h) (fun _ h => h)) hA he (fun h => (h hs).elim) hnext
  | some k =>
    have hk := hsh k hs
    cases r with
    | tupS k' xs =>
      cases hs
      simp only [effCall] at he
      split at he
      · rename_i ys hys
        cases he
        exact sound_enter (ids := []) (r := .tupS k xs) (e := { val := .tup ys, ups := [], rd := [] }) hg hn hrun (fun _ h => by cases h) (fun _ => shArgs_sound hg hargs hk) (fun h => by cases h) hA (by simp only [effCall, hys]) (fun _ => rfl) hnext
      · cases he
    | _ => cases hs

/-- The call of a closure that has caught one variable. -/
theorem sound_callv (hg : Good cx β K s a w) (hn : ¬ K nid) {o : Oper} {t : Nat} {args : Array Operand} {ts : Array TypeId} (ho : o.op = .call { callee := .value (.tmp t), args := args, argTypes := ts }) {f id : Nat} (hf : s.ev (.tmp t) = some (.v (.one (.fn f id))))
    {ivs : List IV} {ids : List Nat} (hargs : s.resArgs args.toList = some (ivs, ids)) {iv : IV} {ids' : List Nat} (hiv : s.resIV (.v (.one (.ptr id 0))) = some (iv, ids')) {r : RV} {fr : Bool} (hnp : r.isPass = false) (hns : r.sh = none) (hA : ACalls cx.P f (ivs ++ [iv]) r fr) {e : Eff} (he : effCall nid (ids ++ ids') fr r = some e)
    {next : Act → World → Prop} {Q : Exit → Act → World → Prop} (hnext : ∀ v w', Post cx K nid s a e v w' → next (a.put o.dst v) w') : o.wp cx.P a w next Q := by
  obtain ⟨hv, hw⟩ := ev_sound hg hf
  have hlive' := resIV_live hiv
  have hlive : (s.obj id).isSome = true := by
    unfold AS.resIV at hiv
    simp only at hiv
    split at hiv
    · rename_i hob; rw [hob]; rfl
    · cases hiv
  obtain ⟨b, hb, hval⟩ := hv.2 hlive
  refine sound_enter hg hn (vs := args.toList.map a.eval ++ [.pointer (some ⟨b, 0, none⟩)]) ?_ (fun i hi => ?_) (fun hp => argsG_of hns hp (All2.append (resArgs_sound hg (ids0 := ids ++ ids') hargs (fun _ h => List.mem_append_left _ h)) (.cons (resIV_sound hg (ids0 := ids ++ ids') (av := .v (.one (.ptr id 0))) ⟨rfl, fun _ => ⟨b, hb, rfl⟩⟩ hw hiv (fun _ h => List.mem_append_right _ h)) .nil))) (fun h => by rw [hnp] at h; cases h) hA he (fun h => (h hns).elim) hnext
  · have hc := hA.1
    simp only [execOp, ho, resolve, hval, Sem.run_bind, Deferred.ofValue, Sem.run_pure, Result.andThen_ok, invoke]
    rw [show (#[] ++ Array.map a.eval args ++ #[Value.pointer (some ⟨b, 0, none⟩)] : Array Value) = (args.toList.map a.eval ++ [Value.pointer (some ⟨b, 0, none⟩)]).toArray from Array.ext' (by simp)]
    exact hc _ _
  · rcases List.mem_append.1 hi with hi | hi
    · exact resArgs_live hargs i hi
    · exact hlive' i hi

end
end Go.Proofs.YtcaahmielncmpaaGreat

namespace Go.Proofs.YtcaahmielncmpaaGreat
open Go Go.RowKit

/-! ## What an operation looks at -/
section
variable {s s' : AS}

theorem resC_local {x : AC} {c : C} {fr : Bool} {ids : List Nat} (h : s.resC x = some (c, fr, ids)) (ho : ∀ id ∈ ids, s'.obj id = s.obj id) : s'.resC x = some (c, fr, ids) := by
  cases x with
  | arr id =>
    simp only [AS.resC] at h ⊢
    split at h
    · rename_i e sz rows f hob
      simp only [Option.some.injEq, Prod.mk.injEq] at h
      obtain ⟨rfl, rfl, rfl⟩ := h
      rw [ho id (by simp), hob]
    · cases h
  | pre id n =>
    simp only [AS.resC] at h ⊢
    split at h
    · rename_i e sz rows f hob
      simp only [Option.some.injEq, Prod.mk.injEq] at h
      obtain ⟨rfl, rfl, rfl⟩ := h
      rw [ho id (by simp), hob]
    · cases h
  | _ => exact h

theorem resCs_local : ∀ {xs : List AC} {cs : List C} {fr : Bool} {ids : List Nat}, s.resCs xs = some (cs, fr, ids) → (∀ id ∈ ids, s'.obj id = s.obj id) → s'.resCs xs = some (cs, fr, ids)
  | [], cs, fr, ids, h, _ => h
  | x :: xs, cs, fr, ids, h, ho => by
    simp only [AS.resCs] at h ⊢
    split at h
    · rename_i c f i cs' f' i' h1 h2
      simp only [Option.some.injEq, Prod.mk.injEq] at h
      obtain ⟨rfl, rfl, rfl⟩ := h
      rw [resC_local h1 fun id hi => ho id (by simp [hi]), resCs_local h2 fun id hi => ho id (by simp [hi])]
    · cases h

theorem rowsOf_local {av : AV} {rows : List (List C)} {fr : Bool} {ids : List Nat} (h : s.rowsOf av = some (rows, fr, ids)) (ho : ∀ id ∈ ids, s'.obj id = s.obj id) : s'.rowsOf av = some (rows, fr, ids) := by
  unfold AS.rowsOf at h ⊢
  split at h
  · exact h
  · exact h
  · rename_i id
    split at h
    · rename_i e sz rows' f hob
      simp only [Option.some.injEq, Prod.mk.injEq] at h
      obtain ⟨rfl, rfl, rfl⟩ := h
      simp only [ho id (by simp), hob]
    · cases h
  · cases h

theorem behind_local {pv : AV} {cells : List AC} {ids : List Nat} {side : Prop} (h : s.behind pv = some (cells, ids, side)) (ho : ∀ id ∈ ids, s'.obj id = s.obj id) : s'.behind pv = some (cells, ids, side) := by
  unfold AS.behind at h ⊢
  split at h
  · rename_i id off
    split at h
    · rename_i cs hob
      simp only [Option.some.injEq, Prod.mk.injEq] at h
      obtain ⟨rfl, rfl, rfl⟩ := h
      simp only [ho id (by simp), hob]
    · cases h
  · rename_i id sz i off
    split at h
    · rename_i e sz' rows fr hob
      split at h
      · rename_i hsz
        simp only [Option.some.injEq, Prod.mk.injEq] at h
        obtain ⟨rfl, rfl, rfl⟩ := h
        simp only [ho id (by simp), hob, if_pos hsz]
      · cases h
    · cases h
  · exact h
  · exact h
  · cases h

theorem resIV_local {av : AV} {iv : IV} {ids : List Nat} (h : s.resIV av = some (iv, ids)) (ho : ∀ id ∈ ids, s'.obj id = s.obj id) : s'.resIV av = some (iv, ids) := by
  unfold AS.resIV at h ⊢
  split at h
  · rename_i id off
    split at h
    · rename_i cells hob
      split at h
      · rename_i cs f ids1 hres
        simp only [Option.some.injEq, Prod.mk.injEq] at h
        obtain ⟨rfl, rfl⟩ := h
        simp only [ho id (by simp), hob, resCs_local hres fun id hi => ho id (by simp [hi])]
      · cases h
    · cases h
  · exact h
  · rename_i x h1 h2
    split at h
    · rename_i c f ids1 hres
      simp only [Option.some.injEq, Prod.mk.injEq] at h
      obtain ⟨rfl, rfl⟩ := h
      rw [resC_local hres ho]
    · cases h
  · rename_i xs
    split at h
    · rename_i cs f ids1 hres
      simp only [Option.some.injEq, Prod.mk.injEq] at h
      obtain ⟨rfl, rfl⟩ := h
      simp only [resCs_local hres ho]
    · cases h
  · cases h

theorem resArgs_local : ∀ {xs : List Operand} {ivs : List IV} {ids : List Nat}, s.resArgs xs = some (ivs, ids) → (∀ x ∈ xs, s'.ev x = s.ev x) → (∀ id ∈ ids, s'.obj id = s.obj id) → s'.resArgs xs = some (ivs, ids)
  | [], ivs, ids, h, _, _ => h
  | x :: xs, ivs, ids, h, he, ho => by
    simp only [AS.resArgs] at h ⊢
    split at h
    · rename_i av hx
      split at h
      · rename_i iv ids1 ivs2 ids2 h1 h2
        simp only [Option.some.injEq, Prod.mk.injEq] at h
        obtain ⟨rfl, rfl⟩ := h
        rw [he x (by simp), hx]
        simp only [resIV_local h1 fun id hi => ho id (by simp [hi]), resArgs_local h2 (fun y hy => he y (by simp [hy])) fun id hi => ho id (by simp [hi])]
      · cases h
    · cases h

theorem frIV_local {av : AV} {iv : IV} {ids : List Nat} (h : s.resIV av = some (iv, ids)) (ho : ∀ id ∈ ids, s'.obj id = s.obj id) (hf : s.frIV av = true) : s'.frIV av = true := by
  unfold AS.resIV at h
  unfold AS.frIV at hf ⊢
  split at h
  · cases hf
  · cases hf
  · rename_i x h1 h2
    have hf' : (match s.resC x with
      | some (_, f, _) => f
      | none => false) = true := by
      cases x <;> first | exact hf | (exact (h1 _ _ rfl).elim) | (exact (h2 _ rfl).elim)
    have key : (match s'.resC x with
      | some (_, f, _) => f
      | none => false) = true := by
      split at h
      · rename_i c f ids1 hres
        simp only [Option.some.injEq, Prod.mk.injEq] at h
        obtain ⟨rfl, rfl⟩ := h
        rw [resC_local hres ho]
        rw [hres] at hf'
        exact hf'
      · cases h
    cases x <;> first | exact key | (exact (h1 _ _ rfl).elim) | (exact (h2 _ rfl).elim)
  · rename_i xs
    split at h
    · rename_i cs f ids1 hres
      simp only [Option.some.injEq, Prod.mk.injEq] at h
      obtain ⟨rfl, rfl⟩ := h
      simp only [hres] at hf
      simp only [resCs_local hres ho]
      exact hf
    · cases h
  · cases h
theorem frArgs_local : ∀ {xs : List Operand} {ivs : List IV} {ids : List Nat}, s.resArgs xs = some (ivs, ids) → (∀ x ∈ xs, s'.ev x = s.ev x) → (∀ id ∈ ids, s'.obj id = s.obj id) → s.frArgs xs = true → s'.frArgs xs = true
  | [], ivs, ids, h, _, _, _ => rfl
  | x :: xs, ivs, ids, h, he, ho, hf => by
    simp only [AS.resArgs] at h
    simp only [AS.frArgs, Bool.and_eq_true] at hf ⊢
    split at h
    · rename_i av hx
      split at h
      · rename_i iv ids1 ivs2 ids2 h1 h2
        simp only [Option.some.injEq, Prod.mk.injEq] at h
        obtain ⟨rfl, rfl⟩ := h
        rw [hx] at hf
        rw [he x (by simp), hx]
        exact ⟨frIV_local h1 (fun id hi => ho id (by simp [hi])) hf.1, frArgs_local h2 (fun y hy => he y (by simp [hy])) (fun id hi => ho id (by simp [hi])) hf.2⟩
      · cases h
    · cases h

theorem evParts_local : ∀ {ps : List (Nat × Operand)}, (∀ p ∈ ps, s'.ev p.2 = s.ev p.2) → s'.evParts ps = s.evParts ps
  | [], _ => rfl
  | (i, x) :: rest, he => by
    simp only [AS.evParts]
    rw [he (i, x) (by simp), evParts_local fun p hp => he p (by simp [hp])]

theorem fillRows_local : ∀ {sz : Nat} {l : List (Nat × A1)} {rows rows' : List (List C)} {fr fr' : Bool} {ids : List Nat}, s.fillRows sz l rows fr = some (rows', fr', ids) → (∀ id ∈ ids, s'.obj id = s.obj id) → s'.fillRows sz l rows fr = some (rows', fr', ids)
  | sz, [], rows, rows', fr, fr', ids, h, _ => h
  | sz, (i, x) :: l, rows, rows', fr, fr', ids, h, ho => by
    simp only [AS.fillRows] at h ⊢
    split at h
    · rename_i cs f ids1 hres
      split at h
      · rename_i hc
        split at h
        · rename_i rs f' ids2 hrest
          simp only [Option.some.injEq, Prod.mk.injEq] at h
          obtain ⟨rfl, rfl, rfl⟩ := h
          simp only [resCs_local hres fun id hi => ho id (by simp [hi]), if_pos hc, fillRows_local hrest fun id hi => ho id (by simp [hi])]
        · cases h
      · cases h
    · cases h

end

/-- The objects that an effect speaks of. -/
def Eff.touch (e : Eff) (id : Nat) : Prop := id ∈ e.rd ∨ id ∈ e.ups.map (·.1)

theorem zero_local {s s' : AS} {z : Value} : s'.resCs (z.cells.toList.map acOf) = s.resCs (z.cells.toList.map acOf) := by
  generalize z.cells.toList = l
  induction l with
  | nil => rfl
  | cons v l ih =>
    simp only [List.map_cons, AS.resCs, ih]
    have : s'.resC (acOf v) = s.resC (acOf v) := by
      unfold acOf
      split <;> rfl
    rw [this]

theorem tab_zero_local {P : Program} {T : Nat} {te : TE} (h : tabOf P T = some te) {s s' : AS} : s'.resCs te.zero = s.resCs te.zero := by
  obtain ⟨i, d, z, q1, q2, q3, q4, q5, q6, q7, q8, _⟩ := tabOf_spec h
  rw [q8]
  exact zero_local

theorem effOp_local {P : Program} {nid : Nat} {op : Op} {s s' : AS} {e : Eff} (h : effOp P nid op s = some e) (he : ∀ x ∈ op.operands, s'.ev x = s.ev x) (ho : ∀ id, e.touch id → s'.obj id = s.obj id) : effOp P nid op s' = some e := by
  cases op with
  | move x => simp only [effOp] at h ⊢; rw [he x (by simp [Op.operands])]; exact h
  | assign x => simp only [effOp] at h ⊢; rw [he x (by simp [Op.operands])]; exact h
  | pick c x y => simp only [effOp] at h ⊢; rw [he c (by simp [Op.operands]), he x (by simp [Op.operands]), he y (by simp [Op.operands])]; exact h
  | alloc T => exact h
  | box T x => simp only [effOp] at h ⊢; rw [he x (by simp [Op.operands])]; exact h
  | build T ps =>
    simp only [effOp] at h ⊢
    rw [evParts_local fun p hp => he p.2 (by simp [Op.operands]; exact ⟨p.1, by simpa using hp⟩)]
    exact h
  | buildSlice T n ps =>
    simp only [effOp] at h ⊢
    rw [evParts_local fun p hp => he p.2 (by simp [Op.operands]; exact ⟨p.1, by simpa using hp⟩)]
    split at h
    · rename_i te l ht hl
      split at h
      · rename_i E hE
        split at h
        · rename_i tE htE
          split at h
          · rename_i z f' i' hz
            split at h
            · rename_i rows fr ids hfr
              cases h
              rw [← tab_zero_local (s := s) (s' := s') htE] at hz
              simp only [ht, hl, hE, htE, hz]
              split at hfr
              · rename_i hc
                simp only [if_pos hc, fillRows_local hfr fun id hi => ho id (.inl hi)]
              · cases hfr
            · cases h
          · cases h
        · cases h
      · cases h
    · cases h
  | load T p =>
    simp only [effOp] at h ⊢
    rw [he p (by simp [Op.operands])]
    split at h
    · rename_i te pv ht hp
      split at h
      · rename_i cells ids side hb
        have hrd : e.rd = ids := by
          split at h
          · split at h
            · cases h; rfl
            · split at h
              · cases h; rfl
              · cases h
          · split at h
            · cases h; rfl
            · cases h
        simp only [ht, hp, behind_local hb fun id hi => ho id (.inl (by rw [hrd]; exact hi))]
        exact h
      · cases h
    · cases h
  | store T p x =>
    simp only [effOp] at h ⊢
    rw [he p (by simp [Op.operands]), he x (by simp [Op.operands])]
    split at h
    · rename_i te id off y ht hp hx
      split at h
      · rename_i cells hob
        split at h
        · rename_i hc
          cases h
          simp only [ht, hp, hx, ho id (.inr (by simp)), hob, if_pos hc]
        · cases h
      · cases h
    · rename_i te id sz i off y ht hp hx
      split at h
      · rename_i e' sz' rows fr cs f ids hob hres
        split at h
        · rename_i hc
          cases h
          simp only [ht, hp, hx, ho id (.inr (by simp)), hob, resCs_local hres fun id hi => ho id (.inl hi)]
          rw [if_pos hc]
        · cases h
      · cases h
    · cases h
  | nilCheck x =>
    simp only [effOp] at h ⊢
    rw [he x (by simp [Op.operands])]
    split at h
    · rename_i id off hx
      split at h
      · rename_i hl
        cases h
        simp only [hx, ho id (.inl (by simp)), if_pos hl]
      · cases h
    · rename_i xs hx
      try simp only [hx]
      exact h
    · cases h
  | makeFunc fn first cap =>
    cases fn with
    | func f =>
      simp only [effOp] at h ⊢
      split at h
      · rename_i x hf hc
        try simp only [hf, hc]
        rw [he x (by
          simp only [Op.operands, Array.mem_append]
          right
          rw [← Array.mem_toList_iff, hc]
          exact List.mem_singleton.2 rfl)]
        split at h
        · rename_i id hx
          split at h
          · rename_i hl
            cases h
            simp only [ho id (.inl (by simp)), if_pos hl]
          · cases h
        · cases h
      · cases h
    | _ => simp only [effOp] at h; cases h
  | convert S T x => simp only [effOp] at h ⊢; rw [he x (by simp [Op.operands])]; exact h
  | binOp op xT x y yT =>
    simp only [effOp] at h ⊢
    rw [he x (by simp [Op.operands]), he y (by simp [Op.operands])]
    split at h
    · rename_i id off hx hy
      skip
      unfold effPtr at h ⊢
      split at h
      · rename_i te ht
        split at h
        · rename_i hc
          have hrd : e.rd = [id] := by
            split at h <;> first | (cases h; rfl) | cases h
          have hob : s'.obj id = s.obj id := ho id (.inl (by rw [hrd]; simp))
          simp only [hob]
          rw [if_pos hc]
          exact h
        · cases h
      · cases h
    · rename_i ax ay hne hx hy
      skip
      exact h
    · cases h
  | unOp op T x =>
    cases op <;> first
      | (simp only [effOp] at h ⊢; rw [he x (by simp [Op.operands])]; exact h)
      | (simp only [effOp] at h; cases h)
  | makeSlice T l c =>
    simp only [effOp] at h ⊢
    rw [he l (by simp [Op.operands]), he c (by simp [Op.operands])]
    split at h
    · rename_i te l' _ c' _ ht hl hc
      split at h
      · rename_i E hE
        split at h
        · rename_i tE htE
          simp only [ht, hl, hc, hE, htE, tab_zero_local (s := s) (s' := s') htE]
          exact h
        · cases h
      · cases h
    · cases h
  | slice T x lo hi mx =>
    cases mx with
    | some m => simp only [effOp] at h; cases h
    | none =>
      simp only [effOp] at h ⊢
      have hlo : ∀ o, lo = some o → s'.ev o = s.ev o := fun o e => he o (by simp [Op.operands, e])
      have hhi : ∀ o, hi = some o → s'.ev o = s.ev o := fun o e => he o (by simp [Op.operands, e])
      have hx' : s'.ev x = s.ev x := he x (by simp [Op.operands])
      have hpre : s'.isPre x lo hi = s.isPre x lo hi := by unfold AS.isPre; rw [hx']
      rw [hpre]
      by_cases hc : s.isPre x lo hi = true
      · rw [if_pos hc] at h ⊢
        obtain ⟨oh, rfl⟩ : ∃ oh, hi = some oh := by
          cases hi with
          | some oh => exact ⟨oh, rfl⟩
          | none =>
            unfold AS.isPre at hc
            split at hc
            · rename_i q _; cases q
            · rename_i q _; cases q
            · cases hc
        unfold AS.preSl at h ⊢
        dsimp only at h ⊢
        rw [hx', hhi oh rfl]
        split at h
        · rename_i te xv n _ ht hx hn
          split at h
          · rename_i E id sz rows hE hp
            split at h
            · rename_i tE htE
              split at h
              · rename_i hsz
                cases h
                have hp' : s'.preOf xv = some (id, sz, rows) := by
                  have hq : s'.obj id = s.obj id := ho id (.inl (by simp))
                  unfold AS.preOf at hp ⊢
                  split at hp
                  · split at hp
                    · rename_i hob
                      cases hp
                      simp only [hq, hob]
                    · cases hp
                  · split at hp
                    · rename_i hob
                      cases hp
                      simp only [hq, hob]
                    · cases hp
                  · cases hp
                simp only [ht, hx, hn, hE, hp', htE, if_pos hsz]
              · cases h
            · cases h
          · cases h
        · cases h
      rw [if_neg hc] at h ⊢
      rw [hx']
      split at h
      · rename_i te xv ht hx
        split at h
        · rename_i E rows fr ids hE hrows
          have hids : e.rd = ids := by
            split at h
            · cases h; rfl
            · cases h
          have hr := rowsOf_local (s' := s') hrows fun id hi => ho id (.inl (by rw [hids]; exact hi))
          cases lo with
          | none =>
            cases hi with
            | none => simp only [ht, hx, hE, hr]; exact h
            | some o => simp only [ht, hx, hE, hr, hhi o rfl]; exact h
          | some o' =>
            cases hi with
            | none => simp only [ht, hx, hE, hr, hlo o' rfl]; exact h
            | some o => simp only [ht, hx, hE, hr, hhi o rfl, hlo o' rfl]; exact h
        · cases h
      · cases h
  | fieldAddr T p f =>
    simp only [effOp] at h ⊢
    rw [he p (by simp [Op.operands])]
    split at h
    · rename_i te pv ht hp
      split at h
      · rename_i off size ag hf
        try simp only [ht, hp, hf]
        split at h
        · cases h
        · rename_i hsz
          try rw [if_neg hsz]
          split at h
          · rename_i id o
            split at h
            · rename_i hl
              cases h
              simp only [ho id (.inl (by simp)), if_pos hl]
            · cases h
          · rename_i id sz i o
            split at h
            · rename_i hl
              cases h
              simp only [ho id (.inl (by simp)), if_pos hl]
            · cases h
          · exact h
          · cases h
      · cases h
    · cases h
  | field T x f => simp only [effOp] at h ⊢; rw [he x (by simp [Op.operands])]; exact h
  | indexAddr T x i =>
    simp only [effOp] at h ⊢
    rw [he x (by simp [Op.operands]), he i (by simp [Op.operands])]
    split at h
    · exact h
    · rename_i te xv n _ ht hx hi
      split at h
      · rename_i E hE
        split at h
        · rename_i tE htE
          try simp only [ht, hx, hi, hE, htE]
          split at h
          · exact h
          · rename_i id
            split at h
            · rename_i e' sz rows fr hob
              split at h
              · rename_i hc
                cases h
                simp only [ho id (.inl (by simp)), hob, if_pos hc]
              · cases h
            · cases h
          · rename_i id m
            split at h
            · rename_i e' sz rows fr hob
              split at h
              · rename_i hc
                cases h
                simp only [ho id (.inl (by simp)), hob, if_pos hc]
              · cases h
            · cases h
          · cases h
        · cases h
      · cases h
    · cases h
  | extract x i => simp only [effOp] at h ⊢; rw [he x (by simp [Op.operands])]; exact h
  | call c =>
    obtain ⟨callee, args, ts⟩ := c
    cases callee with
    | value f => simp only [effOp] at h; cases h
    | invoke r m => simp only [effOp] at h; cases h
    | builtin b =>
      have hops : ∀ x ∈ args.toList, s'.ev x = s.ev x := fun x hx => he x (by simp [Op.operands, Call.operands]; simpa using hx)
      simp only [effOp] at h ⊢
      split at h
      · -- len
        rename_i x T ha hts
        rw [ha] at hops
        simp only [ha, hts, hops x (by simp)]
        split at h
        · exact h
        · rename_i te xv hns ht hx
          split at h
          · rename_i hE
            split at h
            · rename_i rows fr ids hrows
              cases h
              simp only [ht, hx, if_pos hE, rowsOf_local hrows fun id hi => ho id (.inl hi)]
            · cases h
          · rename_i hE
            simp only [ht, hx, if_neg hE]
            exact h
        · cases h
      · rename_i x y ha
        rw [ha] at hops
        simp only [ha, hops x (by simp), hops y (by simp)]
        exact h
      · rename_i x y ha
        rw [ha] at hops
        simp only [ha, hops x (by simp), hops y (by simp)]
        exact h
      · -- append
        rename_i x y T T' ha hts
        rw [ha] at hops
        simp only [ha, hts, hops x (by simp), hops y (by simp)]
        split at h
        · cases h
        · rename_i hT
          rw [if_neg hT]
          split at h
          · rename_i te xv yv ht hx hy
            split at h
            · rename_i E hE
              split at h
              · rename_i tE new f ids htE hrows
                split at h
                · rename_i hsz
                  split at h
                  · cases h
                    simp only [ht, hx, hy, hE, htE, rowsOf_local hrows fun id hi => ho id (.inl hi), if_pos hsz]
                  · rename_i id
                    split at h
                    · rename_i e' sz rows fr hob
                      split at h
                      · rename_i hc
                        cases h
                        simp only [ht, hx, hy, hE, htE, rowsOf_local hrows fun id hi => ho id (.inl (by simp [hi])), if_pos hsz, ho id (.inl (by simp)), hob]
                        rw [if_pos hc]
                      · cases h
                    · cases h
                  · cases h
                · cases h
              · cases h
            · cases h
          · cases h
      · cases h
  | _ => simp only [effOp] at h; cases h

end Go.Proofs.YtcaahmielncmpaaGreat

namespace Go.Proofs.YtcaahmielncmpaaGreat
open Go Go.RowKit

/-! ## One operation of a region, its guard and its result -/
structure Fx where
  dst : Option Nat
  val : AV
  ups : List (Nat × Option Ob)
  rd : List Nat
  side : Prop
  call : Option (FuncId × List IV × RV × Bool)

def AS.app (s : AS) (e : Fx) : AS := (s.ups e.ups).put e.dst e.val

def guardA (ops : Array Oper) (s : AS) (o : Oper) : Option Bool :=
  match o.guard with
  | none => some true
  | some (j, want) => match (ops[j]?).bind (·.dst) with
    | some d => match s.get d with
      | some (.v (.one (.c (.bool b) _))) => some (b == want)
      | some .undef => some false
      | _ => none
    | none => none

/-- The call of a function by its name. -/
def calleeOf : Op → Option (FuncId × List Operand)
  | .call { callee := .value (.func f), args := args, .. } => some (f, args.toList)
  | _ => none

/-- A call's function and arguments. -/
def AS.callOf (s : AS) (op : Op) : Option (FuncId × List IV × List Nat) :=
  match calleeOf op with
  | some (f, args) => match s.resArgs args with
    | some (ivs, ids) => some (f, ivs, ids)
    | none => none
  | none => match op with
    | .call { callee := .value (.tmp t), args := args, .. } => match s.ev (.tmp t), s.resArgs args.toList with
      | some (.v (.one (.fn f id))), some (ivs, ids) => match s.resIV (.v (.one (.ptr id 0))) with
        | some (iv, ids') => some (f, ivs ++ [iv], ids ++ ids')
        | none => none
      | _, _ => none
    | _ => none

/-- What a result that is new if the arguments are asks of them. -/
def AS.passOK (s : AS) (op : Op) (r : RV) : Bool :=
  match r.sh with
  | some k => (match calleeOf op with
    | some (_, args) => s.shOK k args
    | none => false)
  | none => match r.isPass with
  | true => (match calleeOf op with
    | some (_, args) => s.frArgs args
    | none => false)
  | false => true

def dstOK (nt : Nat) : Option Nat → Bool
  | some d => decide (d < nt)
  | none => true

def runOp (P : Program) (nid : Nat) (o : Oper) (s : AS) (orc : Option (RV × Bool)) : Option Fx :=
  match s.callOf o.op with
  | some (f, ivs, ids) => match orc with
    | some (r, fr) => match s.passOK o.op r, effCall nid ids fr r with
      | true, some e => some { dst := o.dst, val := e.val, ups := e.ups, rd := e.rd, side := True, call := some (f, ivs, r, fr) }
      | _, _ => none
    | none => none
  | none => match effOp P nid o.op s with
    | some e => some { dst := o.dst, val := e.val, ups := e.ups, rd := e.rd, side := e.side, call := none }
    | none => none

def fxOf (P : Program) (ops : Array Oper) (nt nid : Nat) (o : Oper) (s : AS) (orc : Option (RV × Bool)) : Option Fx :=
  if dstOK nt o.dst then
    match guardA ops s o with
    | some true => runOp P nid o s orc
    | some false => some { dst := o.dst, val := .undef, ups := [], rd := [], side := True, call := none }
    | none => none
  else none

def Fx.Holds (P : Program) (e : Fx) : Prop := e.side ∧ match e.call with
  | some (f, ivs, r, fr) => ACalls P f ivs r fr
  | none => True

section
variable {cx : Cx} {K : Nat → Prop} {β : Nat → Value} {s : AS} {a : Act} {w : World} {nid : Nat}

theorem eff_sound (hg : Good cx β K s a w) (hn : ¬ K nid) {o : Oper} {e : Eff} (h : effOp cx.P nid o.op s = some e) (hs : e.side) : Sound cx K nid s a w o e := by
  obtain ⟨dst, op, ty, pos, after, guard⟩ := o
  dsimp only at h
  cases op with
  | move x => exact sound_move hg (.inl rfl) h
  | assign x => exact sound_move (x := x) hg (.inr rfl) (by simpa only [effOp] using h)
  | pick c x y => exact sound_pick hg rfl h
  | alloc T => exact sound_alloc_op hg hn rfl h
  | box T x => exact sound_box hg hn rfl h
  | build T ps => exact sound_build hg rfl h
  | buildSlice T n ps => exact sound_buildSlice hg hn rfl h
  | load T p => exact sound_load hg rfl h hs
  | store T p x => exact sound_store hg rfl h hs
  | nilCheck x => exact sound_nilCheck hg rfl h
  | binOp op xT x y yT => exact sound_bin hg rfl h hs
  | unOp op T x =>
    cases op <;> first
      | exact sound_not hg rfl h
      | (simp only [effOp] at h; cases h)
  | makeSlice T l c => exact sound_makeSlice hg hn rfl h hs
  | slice T x lo hi mx =>
    cases mx with
    | none => exact sound_slice hg rfl h hs
    | some m => simp only [effOp] at h; cases h
  | fieldAddr T p f => exact sound_fieldAddr hg rfl h
  | field T x f => exact sound_field hg rfl h
  | indexAddr T x i => exact sound_indexAddr hg rfl h hs
  | extract x i => exact sound_extract hg rfl h
  | convert S T x => exact sound_convert hg rfl h
  | makeFunc fn first cap =>
    cases fn with
    | func f => exact sound_makeFunc hg rfl h
    | _ => simp only [effOp] at h; cases h
  | call c =>
    obtain ⟨callee, args, ts⟩ := c
    cases callee with
    | value f => simp only [effOp] at h; cases h
    | invoke r m => simp only [effOp] at h; cases h
    | builtin b =>
      have h0 := h
      simp only [effOp] at h
      split at h
      · rename_i x T ha hts
        obtain rfl : args = #[x] := Array.ext' (by simpa using ha)
        obtain rfl : ts = #[T] := Array.ext' (by simpa using hts)
        exact sound_len hg rfl h0
      · rename_i x y ha
        obtain rfl : args = #[x, y] := Array.ext' (by simpa using ha)
        exact sound_max hg rfl h0
      · rename_i x y ha
        obtain rfl : args = #[x, y] := Array.ext' (by simpa using ha)
        exact sound_min hg rfl h0
      · rename_i x y T T' ha hts
        obtain rfl : args = #[x, y] := Array.ext' (by simpa using ha)
        obtain rfl : ts = #[T, T'] := Array.ext' (by simpa using hts)
        exact sound_append hg hn rfl h0 hs
      · cases h
  | _ => simp only [effOp] at h; cases h

theorem Good.put' (hg : Good cx β K s a w) {d : Option Nat} {av : AV} {v : Value} (hd : dstOK cx.nt d = true) (hv : gV cx β s w av v) (hw : av.wf K) : Good cx β K (s.put d av) (a.put d v) w := by
  cases d with
  | none => exact hg
  | some d => exact hg.put (by simpa [dstOK] using hd) hv hw

/-- The guard's answer is the model's. -/
theorem guard_sound (hg : Good cx β K s a w) {ops : Array Oper} {o : Oper} {b : Bool} (h : guardA ops s o = some b) : Region.wanted o (yielded ops a.tmps) = b := by
  unfold guardA at h
  unfold Region.wanted
  split at h
  · rename_i hgd
    rw [hgd]
    simpa using h
  · rename_i j want hgd
    rw [hgd]
    simp only
    split at h
    · rename_i d hd
      have hy : yielded ops a.tmps j = match a.tmps[d]? with | some (.bool b) => some b | _ => none := by
        unfold yielded
        rw [hd]
        rfl
      rw [hy]
      split at h
      · rename_i c _ hc
        cases h
        obtain ⟨v, h1, h2⟩ := hg.slots d _ hc
        simp only [gV, g1, gC, Rep] at h2
        rw [h1, h2]
        simp
      · rename_i hc
        cases h
        obtain ⟨v, h1, h2⟩ := hg.slots d _ hc
        simp only [gV] at h2
        rw [h1, h2]
        rfl
      · cases h
    · cases h

theorem fx_sound (hg : Good cx β K s a w) (hn : ¬ K nid) {ops : Array Oper} {i : Nat} {o : Oper} (hi : ops[i]? = some o) {orc : Option (RV × Bool)} {e : Fx} (h : fxOf cx.P ops cx.nt nid o s orc = some e) (hh : e.Holds cx.P)
    {next : Act → World → Prop} {Q : Exit → Act → World → Prop} (hnext : ∀ v w' β', Good cx β' (also K nid) (s.app e) (a.put o.dst v) w' → next (a.put o.dst v) w') : wpOp cx.P ops Q i next a w := by
  unfold wpOp
  simp only [hi]
  unfold fxOf at h
  split at h
  · rename_i hd
    split at h
    · rename_i hgd
      rw [if_pos (guard_sound hg hgd)]
      left
      unfold runOp at h
      split at h
      · rename_i f ivs ids hcall
        split at h
        · rename_i r fr
          split at h
          · rename_i e0 hpo he0
            cases h
            have hnext' : ∀ v w', Post cx K nid s a e0 v w' → next (a.put o.dst v) w' := fun v w' ⟨β', p1, p2, p3⟩ => hnext v w' β' (p1.put' hd p2 p3)
            unfold AS.callOf at hcall
            split at hcall
            · rename_i f' args hc
              split at hcall
              · rename_i ivs' ids' hargs
                cases hcall
                have hop : ∃ args' ts, o.op = .call { callee := .value (.func f), args := args', argTypes := ts } ∧ args = args'.toList := by
                  unfold calleeOf at hc
                  split at hc
                  · rename_i f' args' ts' hop
                    cases hc
                    exact ⟨args', ts', hop, rfl⟩
                  · cases hc
                obtain ⟨args', ts, hop, rfl⟩ := hop
                refine sound_call hg hn hop hargs (fun hp => ?_) (fun k hk => ?_) hh.2 he0 hnext'
                · unfold AS.passOK at hpo
                  have hs : r.sh = none := by cases r <;> first | rfl | cases hp
                  rw [hs, hp] at hpo
                  simp only [hc] at hpo
                  exact hpo
                · unfold AS.passOK at hpo
                  rw [hk] at hpo
                  simp only [hc] at hpo
                  exact hpo
              · cases hcall
            · split at hcall
              · rename_i t args ts hop
                split at hcall
                · rename_i f' id ivs' ids' hf hargs
                  split at hcall
                  · rename_i iv ids2 hiv
                    cases hcall
                    have hns : r.sh = none := by
                      cases hs : r.sh with
                      | none => rfl
                      | some k =>
                        unfold AS.passOK at hpo
                        rw [hs, hop] at hpo
                        cases hpo
                    refine sound_callv hg hn hop hf hargs hiv ?_ hns hh.2 he0 hnext'
                    cases hp : r.isPass with
                    | false => rfl
                    | true =>
                      unfold AS.passOK at hpo
                      rw [hns, hp, hop] at hpo
                      cases hpo
                  · cases hcall
                · cases hcall
              · cases hcall
          · cases h
        · cases h
      · split at h
        · rename_i e0 he0
          cases h
          obtain ⟨v, w', hy, β', p1, p2, p3⟩ := eff_sound hg hn he0 hh.1
          unfold Oper.wp
          rcases hy with hy | ⟨hy, rfl⟩
          · rw [hy]
            exact hnext v w' β' (p1.put' hd p2 p3)
          · rw [hy]
            exact hnext _ w' β' (p1.put' hd p2 p3)
        · cases h
    · rename_i hgd
      cases h
      rw [if_neg (by rw [guard_sound hg hgd]; simp)]
      refine hnext _ w β ?_
      have : s.ups [] = s := AS.ups_nil s
      unfold AS.app
      rw [this]
      exact (hg.monoK fun _ h => .inl h).put' hd rfl trivial
    · cases h
  · cases h

end

/-! ## The lexical order -/
def fxs (P : Program) (ops : Array Oper) (nt base : Nat) (orc : List (Nat × RV × Bool)) : List Oper → Nat → AS → Option (List Fx)
  | [], _, _ => some []
  | o :: rest, i, s => match fxOf P ops nt (base + i) o s (orc.lookup i) with
    | some e => match fxs P ops nt base orc rest (i + 1) (s.app e) with
      | some es => some (e :: es)
      | none => none
    | none => none

def AS.apps (s : AS) : List Fx → AS
  | [] => s
  | e :: es => (s.app e).apps es

/-- The state behind a region. -/
def AS.behindRegion (s : AS) (es : List Fx) : AS := { (s.apps es) with next := s.next + es.length }

def Below' (n : Nat) : Nat → Prop := fun i => i < n

theorem lex_sound {cx : Cx} {ops : Array Oper} {Q : Exit → Act → World → Prop} {base : Nat} {orc : List (Nat × RV × Bool)} : ∀ (l : List Oper) (i : Nat) (s : AS) (es : List Fx) (β : Nat → Value) (a : Act) (w : World),
    (∀ j, l[j]? = ops[i + j]?) → fxs cx.P ops cx.nt base orc l i s = some es → (∀ e ∈ es, e.Holds cx.P) → Good cx β (Below' (base + i)) s a w →
    (∀ β' a' w', Good cx β' (Below' (base + i + l.length)) (s.apps es) a' w' → Q .normal a' w') → wpOps cx.P ops Q (List.range' i l.length) a w
  | [], i, s, es, β, a, w, _, h, _, hg, hq => by
    simp only [fxs, Option.some.injEq] at h
    subst h
    exact hq β a w hg
  | o :: l, i, s, es, β, a, w, hl, h, hh, hg, hq => by
    have h0 : ops[i]? = some o := by simpa using (hl 0).symm
    simp only [fxs] at h
    split at h
    · rename_i e he
      split at h
      · rename_i es' hes
        cases h
        rw [List.length_cons, List.range'_succ, wpOps_cons]
        refine fx_sound hg (nid := base + i) (by simp [Below']) h0 he (hh e (by simp)) fun v w' β' hg' => ?_
        refine lex_sound l (i + 1) (s.app e) es' β' _ w' (fun j => ?_) hes (fun e' h' => hh e' (by simp [h'])) ?_ ?_
        · have := hl (j + 1)
          simpa [Nat.add_assoc, Nat.add_comm 1 j] using this
        · refine hg'.monoK fun k hk => ?_
          rcases hk with hk | rfl
          · simp only [Below'] at hk ⊢; omega
          · simp only [Below']; omega
        · intro β2 a2 w2 hg2
          refine hq β2 a2 w2 ?_
          rw [List.length_cons, show base + i + (l.length + 1) = base + (i + 1) + l.length by omega]
          exact hg2
      · cases h
    · cases h

end Go.Proofs.YtcaahmielncmpaaGreat

namespace Go.Proofs.YtcaahmielncmpaaGreat
open Go Go.RowKit

/-! ## Any order -/
def Fx.wr (e : Fx) : List Nat := e.ups.map (·.1)
def Fx.touch (e : Fx) (id : Nat) : Prop := id ∈ e.rd ∨ id ∈ e.wr

def disj (l m : List Nat) : Bool := l.all fun x => !m.contains x

theorem disj_spec {l m : List Nat} (h : disj l m = true) : ∀ x ∈ l, x ∉ m := by
  intro x hx hm
  have := (List.all_eq_true.1 h) x hx
  simp at this
  exact this hm

/-- The same look-ups. -/
structure Same (s s' : AS) : Prop where
  get : ∀ t, s'.get t = s.get t
  obj : ∀ id, s'.obj id = s.obj id

theorem ups_obj_out : ∀ (l : List (Nat × Option Ob)) (s : AS) (id : Nat), id ∉ l.map (·.1) → (s.ups l).obj id = s.obj id
  | [], s, id, _ => by rw [AS.ups_nil]
  | p :: l, s, id, h => by
    rw [AS.ups_cons, ups_obj_out l _ id (fun hm => h (by simp [hm]))]
    obtain ⟨i, o⟩ := p
    rw [AS.obj_up, if_neg (fun e => h (by simp [e]))]

theorem ups_obj_in : ∀ (l : List (Nat × Option Ob)) (s s' : AS) (id : Nat), id ∈ l.map (·.1) → (s.ups l).obj id = (s'.ups l).obj id
  | [], _, _, _, h => by simp at h
  | p :: l, s, s', id, h => by
    rw [AS.ups_cons, AS.ups_cons s']
    by_cases hm : id ∈ l.map (·.1)
    · exact ups_obj_in l _ _ id hm
    · rw [ups_obj_out l _ id hm, ups_obj_out l _ id hm]
      obtain ⟨i, o⟩ := p
      simp only [List.map_cons, List.mem_cons] at h
      rcases h with h | h
      · rw [AS.obj_up, AS.obj_up, if_pos h, if_pos h]
      · exact absurd h hm

theorem app_obj_out {s : AS} {e : Fx} {id : Nat} (h : id ∉ e.wr) : (s.app e).obj id = s.obj id := by
  unfold AS.app
  rw [AS.obj_put]
  exact ups_obj_out _ _ _ h

theorem app_obj_in {s s' : AS} {e : Fx} {id : Nat} (h : id ∈ e.wr) : (s.app e).obj id = (s'.app e).obj id := by
  unfold AS.app
  rw [AS.obj_put, AS.obj_put]
  exact ups_obj_in _ _ _ _ h

theorem app_get (s : AS) (e : Fx) (t : Nat) : (s.app e).get t = if e.dst = some t then some e.val else s.get t := by
  unfold AS.app
  cases h : e.dst with
  | none => simp [AS.put, AS.get_ups]
  | some d =>
    rw [AS.get_put, AS.get_ups]
    by_cases e1 : t = d
    · subst e1; simp
    · rw [if_neg e1, if_neg (fun e2 => e1 (Option.some.inj e2).symm)]

theorem Same.app {s s' : AS} (h : Same s s') (e : Fx) : Same (s.app e) (s'.app e) where
  get := fun t => by rw [app_get, app_get, h.get]
  obj := fun id => by
    by_cases hm : id ∈ e.wr
    · exact app_obj_in hm
    · rw [app_obj_out hm, app_obj_out hm, h.obj]

theorem Same.good {cx : Cx} {K : Nat → Prop} {β : Nat → Value} {s s' : AS} {a : Act} {w : World} (h : Same s s') (hg : Good cx β K s a w) : Good cx β K s' a w := by
  have hs : Step cx K β s w β s' w := ⟨Nat.le_refl _, fun _ _ _ => rfl, fun b _ hm => by
      rcases hm with hm | ⟨i, o, h1, h2⟩
      · exact .inl hm
      · exact .inr ⟨i, o, by rw [← h.obj]; exact h1, h2⟩, fun i _ hl => ⟨by rw [← h.obj]; exact hl, rfl⟩⟩
  refine ⟨hg.ext, hg.sb, hg.fb, hg.defers, hg.size, ⟨fun t av hh => hg.wf.env t av (by rw [← h.get]; exact hh), fun id o hh => hg.wf.heap id o (by rw [← h.obj]; exact hh)⟩, ?_, ?_, ?_⟩
  · intro t av hh
    rw [h.get] at hh
    obtain ⟨v, h1, h2⟩ := hg.slots t av hh
    exact ⟨v, h1, hs.gV (hg.wf.env t av hh) h2⟩
  · intro id o hh
    rw [h.obj] at hh
    exact hs.gO (hg.wf.heap id o hh).2 (fun _ _ => rfl) (hg.objs id o hh)
  · intro i i' o o' h1 h2
    rw [h.obj] at h1 h2
    exact hg.inj i i' o o' h1 h2

section
variable {P : Program} {ops : Array Oper} {nt : Nat} {md : Region.Mode}

theorem ev_of_looks {s s' : AS} {o : Oper} (hget : ∀ t ∈ o.looksAt ops, s'.get t = s.get t) {x : Operand} (hx : x ∈ o.op.operands) : s'.ev x = s.ev x := by
  cases x with
  | tmp t =>
    show (s'.get t).map AV.now = (s.get t).map AV.now
    rw [hget t (by
      unfold Oper.looksAt
      refine List.mem_append_left _ (List.mem_filterMap.2 ⟨.tmp t, by simpa using hx, rfl⟩))]
  | _ => rfl

theorem effOp_nocall {nid : Nat} {op : Op} {s : AS} {e : Eff} (h : effOp P nid op s = some e) : calleeOf op = none ∧ ∀ t args ts, op = .call { callee := .value (.tmp t), args := args, argTypes := ts } → False := by
  refine ⟨?_, fun t args ts hop => ?_⟩
  · unfold calleeOf
    split
    · simp only [effOp] at h; cases h
    · rfl
  · subst hop
    simp only [effOp] at h; cases h

theorem callOf_local {s s' : AS} {op : Op} {f : FuncId} {ivs : List IV} {ids : List Nat} (h : s.callOf op = some (f, ivs, ids)) (hev : ∀ x ∈ op.operands, s'.ev x = s.ev x) (ho : ∀ id ∈ ids, s'.obj id = s.obj id) : s'.callOf op = some (f, ivs, ids) := by
  unfold AS.callOf at h ⊢
  split at h
  · rename_i f' args hc
    have hop : ∀ x ∈ args, x ∈ op.operands := by
      unfold calleeOf at hc
      split at hc
      · rename_i f' args' ts' hop
        cases hc
        intro x hx
        simp [Op.operands, Call.operands]
        exact .inr (by simpa using hx)
      · cases hc
    split at h
    · rename_i ivs' ids' hargs
      cases h
      simp only [hc, resArgs_local (s' := s') hargs (fun x hx => hev x (hop x hx)) ho]
    · cases h
  · rename_i hc
    split at h
    · rename_i t args ts
      split at h
      · rename_i f' id ivs' ids' hf hargs
        split at h
        · rename_i iv ids2 hiv
          cases h
          have h1 : s'.ev (.tmp t) = s.ev (.tmp t) := hev _ (by simp [Op.operands, Call.operands])
          have h2 := resArgs_local (s' := s') hargs (fun x hx => hev x (by simp [Op.operands, Call.operands]; exact .inr (by simpa using hx))) fun id hi => ho id (List.mem_append_left _ hi)
          have h3 := resIV_local (s' := s') hiv fun id hi => ho id (List.mem_append_right _ hi)
          rw [h1, hf]
          simp only [hc, h2, h3]
        · cases h
      · cases h
    · cases h

theorem flat0_local {s s' : AS} {x : Operand} (he : s'.ev x = s.ev x) (h : s.flat0 x = true) : s'.flat0 x = true := by
  unfold AS.flat0 at h ⊢
  rw [he]
  split at h
  · rename_i av hx
    split at h
    · rename_i iv ids hr
      rw [List.isEmpty_iff] at h
      subst h
      have h2 := resIV_local (s' := s') hr (fun id hi => by cases hi)
      simp only [hx, h2]
      rfl
    · cases h
  · cases h
theorem shOK_local {s s' : AS} : ∀ {k : Nat} {xs : List Operand}, (∀ x ∈ xs, s'.ev x = s.ev x) → s.shOK k xs = true → s'.shOK k xs = true
  | 0, x :: xs, he, h => by
    simp only [AS.shOK, Bool.and_eq_true, List.all_eq_true] at h ⊢
    exact ⟨by rw [he x (by simp)]; exact h.1, fun y hy => flat0_local (he y (by simp [hy])) (h.2 y hy)⟩
  | k + 1, x :: xs, he, h => by
    simp only [AS.shOK, Bool.and_eq_true] at h ⊢
    exact ⟨flat0_local (he x (by simp)) h.1, shOK_local (fun y hy => he y (by simp [hy])) h.2⟩
  | 0, [], _, h => by cases h
  | _ + 1, [], _, h => by cases h

theorem passOK_local {s s' : AS} {op : Op} {f : FuncId} {ivs : List IV} {ids : List Nat} (h : s.callOf op = some (f, ivs, ids)) (hev : ∀ x ∈ op.operands, s'.ev x = s.ev x) (ho : ∀ id ∈ ids, s'.obj id = s.obj id) {r : RV} (hp : s.passOK op r = true) : s'.passOK op r = true := by
  unfold AS.passOK at hp ⊢
  cases hsh : r.sh with
  | some k =>
    rw [hsh] at hp
    unfold AS.callOf at h
    split at h
    · rename_i f' args hc
      have hop : ∀ x ∈ args, x ∈ op.operands := by
        unfold calleeOf at hc
        split at hc
        · rename_i f' args' ts' hop
          cases hc
          intro x hx
          simp [Op.operands, Call.operands]
          exact .inr (by simpa using hx)
        · cases hc
      simp only [hc] at hp ⊢
      exact shOK_local (fun x hx => hev x (hop x hx)) hp
    · rename_i hc
      try simp only [hc] at hp
      first | cases hp | (rename_i hc2; rw [hc2] at hp; cases hp)
  | none =>
  rw [hsh] at hp
  dsimp only at hp ⊢
  cases hr : r.isPass with
  | false => rfl
  | true =>
    rw [hr] at hp
    unfold AS.callOf at h
    split at h
    · rename_i f' args hc
      have hop : ∀ x ∈ args, x ∈ op.operands := by
        unfold calleeOf at hc
        split at hc
        · rename_i f' args' ts' hop
          cases hc
          intro x hx
          simp [Op.operands, Call.operands]
          exact .inr (by simpa using hx)
        · cases hc
      split at h
      · rename_i ivs' ids' hargs
        cases h
        simp only [hc] at hp ⊢
        exact frArgs_local hargs (fun x hx => hev x (hop x hx)) ho hp
      · cases h
    · rename_i hc
      simp only [hc] at hp
      cases hp

theorem fx_local {nid : Nat} {o : Oper} {s s' : AS} {orc : Option (RV × Bool)} {e : Fx} (h : fxOf P ops nt nid o s orc = some e) (hget : ∀ t ∈ o.looksAt ops, s'.get t = s.get t) (hobj : ∀ id, e.touch id → s'.obj id = s.obj id) :
    fxOf P ops nt nid o s' orc = some e := by
  have hev : ∀ x ∈ o.op.operands, s'.ev x = s.ev x := fun x hx => ev_of_looks hget hx
  have hguard : guardA ops s' o = guardA ops s o := by
    unfold guardA
    cases hgd : o.guard with
    | none => rfl
    | some p =>
      obtain ⟨j, want⟩ := p
      simp only
      cases hd : (ops[j]?).bind (·.dst) with
      | none => rfl
      | some d =>
        simp only
        rw [hget d (by
          unfold Oper.looksAt
          rw [hgd]
          refine List.mem_append_right _ ?_
          simp only [hd]
          simp)]
  unfold fxOf at h ⊢
  split at h
  · rename_i hd
    rw [if_pos hd, hguard]
    split at h
    · rename_i hg
      unfold runOp at h ⊢
      split at h
      · rename_i f ivs ids hcall
        split at h
        · rename_i r fr
          split at h
          · rename_i e0 hpo he0
            cases h
            have hrd : e0.rd = ids := by
              cases r with
              | v x => simp only [effCall] at he0; split at he0 <;> cases he0; rfl
              | tup xs => simp only [effCall] at he0; split at he0 <;> cases he0; rfl
              | own E sz rows => simp only [effCall, Option.some.injEq] at he0; subst he0; rfl
              | pass x => simp only [effCall] at he0; split at he0 <;> cases he0; rfl
              | tupb xs o => simp only [effCall] at he0; split at he0 <;> cases he0; rfl
              | tupS k xs => simp only [effCall] at he0; split at he0 <;> cases he0; rfl
            have hr : s'.callOf o.op = some (f, ivs, ids) := callOf_local hcall hev fun id hi => hobj id (.inl (by dsimp only; rw [hrd]; exact hi))
            have hpo' := passOK_local hcall hev (fun id hi => hobj id (.inl (by dsimp only; rw [hrd]; exact hi))) hpo
            simp only [hr, he0, hpo']
          · cases h
        · cases h
      · rename_i hcall
        split at h
        · rename_i e0 he0
          cases h
          have hr : s'.callOf o.op = none := by
            have hne := effOp_nocall he0
            unfold AS.callOf
            rw [hne.1]
            split
            · rename_i h1; cases h1
            · split
              · rename_i t args ts hop
                exact (hne.2 t args ts hop).elim
              · rfl
          simp only [hr]
          rw [effOp_local he0 hev fun id hi => hobj id hi]
        · cases h
    · rename_i hg
      exact h
    · cases h
  · cases h

/-- In this state operation i has its effect. -/
def Does (P : Program) (ops : Array Oper) (nt base : Nat) (orc : List (Nat × RV × Bool)) (E : Nat → Option Fx) (i : Nat) (s : AS) : Prop :=
  ∃ o e, ops[i]? = some o ∧ E i = some e ∧ fxOf P ops nt (base + i) o s (orc.lookup i) = some e

def after (E : Nat → Option Fx) (i : Nat) (s : AS) : AS := match E i with
  | some e => s.app e
  | none => s

def indep (ops : Array Oper) (E : Nat → Option Fx) (i j : Nat) : Bool :=
  match ops[i]?, ops[j]?, E i, E j with
  | some oi, some oj, some ei, some ej => oi.apart ops oj && disj ei.wr (ej.rd ++ ej.wr) && disj ej.wr (ei.rd ++ ei.wr)
  | _, _, _, _ => true

variable {base : Nat} {orc : List (Nat × RV × Bool)} {E : Nat → Option Fx}

theorem fx_dst {nid : Nat} {o : Oper} {s : AS} {orc : Option (RV × Bool)} {e : Fx} (h : fxOf P ops nt nid o s orc = some e) : e.dst = o.dst := by
  unfold fxOf at h
  split at h
  · split at h
    · unfold runOp at h
      split at h
      · split at h
        · split at h
          · cases h; rfl
          · cases h
        · cases h
      · split at h
        · cases h; rfl
        · cases h
    · cases h; rfl
    · cases h
  · cases h

theorem Does.same {i : Nat} {s s' : AS} (h : Does P ops nt base orc E i s) (hs : Same s s') : Does P ops nt base orc E i s' := by
  obtain ⟨o, e, h1, h2, h3⟩ := h
  exact ⟨o, e, h1, h2, fx_local h3 (fun t _ => hs.get t) (fun id _ => hs.obj id)⟩

theorem swap {i j : Nat} {s : AS} (hi : Does P ops nt base orc E i s) (hj : Does P ops nt base orc E j (after E i s)) (hind : indep ops E i j = true) :
    Does P ops nt base orc E j s ∧ Does P ops nt base orc E i (after E j s) ∧ Same (after E j (after E i s)) (after E i (after E j s)) := by
  obtain ⟨oi, ei, i1, i2, i3⟩ := hi
  obtain ⟨oj, ej, j1, j2, j3⟩ := hj
  unfold indep at hind
  simp only [i1, j1, i2, j2, Bool.and_eq_true] at hind
  obtain ⟨⟨hap, hd1⟩, hd2⟩ := hind
  obtain ⟨a1, a2, a3⟩ := Oper.apart_spec hap
  have d1 := disj_spec hd1
  have d2 := disj_spec hd2
  have edi := fx_dst i3
  have edj := fx_dst j3
  have e1 : after E i s = s.app ei := by simp [after, i2]
  have e2 : ∀ s, after E j s = s.app ej := fun s => by simp [after, j2]
  have e3 : ∀ s, after E i s = s.app ei := fun s => by simp [after, i2]
  rw [e1] at j3 ⊢
  rw [e2, e2]
  rw [e3]
  refine ⟨⟨oj, ej, j1, j2, fx_local j3 (fun t ht => ?_) (fun id hid => ?_)⟩, ⟨oi, ei, i1, i2, fx_local i3 (fun t ht => ?_) (fun id hid => ?_)⟩, ⟨fun t => ?_, fun id => ?_⟩⟩
  · rw [app_get, if_neg]
    intro e
    exact a1 t (by rw [← edi]; exact e) ht
  · rw [app_obj_out]
    intro hm
    exact d1 id hm (by rcases hid with h | h <;> simp [h])
  · rw [app_get, if_neg]
    intro e
    exact a3 t (by rw [← edj]; exact e) ht
  · rw [app_obj_out]
    intro hm
    exact d2 id hm (by rcases hid with h | h <;> simp [h])
  · rw [app_get, app_get, app_get, app_get]
    by_cases h1 : ei.dst = some t
    · by_cases h2 : ej.dst = some t
      · exact absurd (edj ▸ h2) (a2 t (edi ▸ h1))
      · rw [if_pos h1, if_neg h2, if_pos h1]
    · rw [if_neg h1, if_neg h1]
  · by_cases h1 : id ∈ ei.wr
    · have h2 : id ∉ ej.wr := fun h => d1 id h1 (by simp [h])
      rw [app_obj_out h2]
      exact app_obj_in h1
    · rw [app_obj_out h1]
      by_cases h2 : id ∈ ej.wr
      · exact app_obj_in h2
      · rw [app_obj_out h2, app_obj_out h2, app_obj_out h1]

/-- Whatever order is picked from here on. -/
def anyA (P : Program) (md : Region.Mode) (ops : Array Oper) (nt base : Nat) (orc : List (Nat × RV × Bool)) (E : Nat → Option Fx) (G : AS → Prop) : Nat → Array Bool → AS → Prop
  | 0, listed, s => Region.ready md ops listed = [] ∧ G s
  | fuel + 1, listed, s => (Region.ready md ops listed = [] → G s) ∧
    ∀ i ∈ Region.ready md ops listed, Does P ops nt base orc E i s ∧ anyA P md ops nt base orc E G fuel (listed.setIfInBounds i true) (after E i s)

theorem after_same {i : Nat} {s s' : AS} (hs : Same s s') : Same (after E i s) (after E i s') := by
  unfold after
  split
  · exact hs.app _
  · exact hs

theorem anyA_same {G : AS → Prop} (hG : ∀ s s', Same s s' → G s → G s') : ∀ (fuel : Nat) (listed : Array Bool) (s s' : AS), Same s s' → anyA P md ops nt base orc E G fuel listed s → anyA P md ops nt base orc E G fuel listed s'
  | 0, _, s, s', hs, h => ⟨h.1, hG s s' hs h.2⟩
  | fuel + 1, listed, s, s', hs, h => ⟨fun h0 => hG s s' hs (h.1 h0), fun i hi => ⟨(h.2 i hi).1.same hs, anyA_same hG fuel _ _ _ (after_same hs) (h.2 i hi).2⟩⟩

/-- Does j wait for i, by a chain? -/
def reachB (md : Region.Mode) (ops : Array Oper) : Nat → Nat → Nat → Bool
  | 0, _, _ => false
  | f + 1, j, i => match ops[j]? with
    | some oj => oj.after.any fun e => Region.binds md e && (e.on == i || reachB md ops f e.on i)
    | none => false

def Closed (md : Region.Mode) (ops : Array Oper) (listed : Array Bool) : Prop := ∀ j o, ops[j]? = some o → listed.getD j false = true → ∀ e ∈ o.after, Region.binds md e = true → listed.getD e.on false = true

theorem reach_closed {listed : Array Bool} (hc : Closed md ops listed) {i : Nat} (hi : listed.getD i false = false) : ∀ (f j : Nat), (∀ o, ops[j]? = some o → ∀ e ∈ o.after, Region.binds md e = true → listed.getD e.on false = true) → reachB md ops f j i = false
  | 0, _, _ => rfl
  | f + 1, j, h => by
    simp only [reachB]
    split
    · rename_i oj hoj
      rw [Array.any_eq_false']
      intro e he hb
      simp only [Bool.and_eq_true, Bool.or_eq_true, beq_iff_eq] at hb
      have h1 := h oj hoj e he hb.1
      rcases hb.2 with h2 | h2
      · rw [h2, hi] at h1; cases h1
      · rw [reach_closed hc hi f e.on (fun o ho => hc e.on o ho h1)] at h2
        cases h2
    · rfl

theorem Closed.set {listed : Array Bool} (hc : Closed md ops listed) {j : Nat} (hj : j ∈ Region.ready md ops listed) : Closed md ops (listed.setIfInBounds j true) := by
  obtain ⟨hjun, oj, hoj, hall⟩ := mem_ready.1 hj
  have keep : ∀ k, listed.getD k false = true → (listed.setIfInBounds j true).getD k false = true := fun k hk => by
    by_cases hjk : j = k
    · subst hjk
      rcases Nat.lt_or_ge j listed.size with h' | h'
      · simp [h']
      · simp [Array.getElem?_eq_none h'] at hk
    · rw [getD_set_ne false hjk]; exact hk
  intro k o ho hk e he hb
  by_cases hjk : j = k
  · subst hjk
    rw [hoj] at ho
    cases ho
    exact keep _ (hall e he hb)
  · rw [getD_set_ne false hjk] at hk
    exact keep _ (hc k o ho hk e he hb)

theorem getD_tf {listed : Array Bool} {i : Nat} (h : listed.getD i true = false) : listed.getD i false = false := by
  rcases Nat.lt_or_ge i listed.size with h' | h'
  · simp [h'] at h ⊢; exact h
  · simp [Array.getElem?_eq_none h'] at h

theorem anyA_first {G : AS → Prop} (hG : ∀ s s', Same s s' → G s → G s') {i : Nat} {oi : Oper} (hi : ops[i]? = some oi) :
    ∀ (fuel : Nat) (listed : Array Bool) (s : AS), Closed md ops listed →
      (∀ j oj, ops[j]? = some oj → j ≠ i → listed.getD j true = false → reachB md ops 4 j i = false → indep ops E i j = true) →
      i ∈ Region.ready md ops listed → Does P ops nt base orc E i s →
      anyA P md ops nt base orc E G fuel (listed.setIfInBounds i true) (after E i s) → anyA P md ops nt base orc E G (fuel + 1) listed s := by
  intro fuel
  induction fuel with
  | zero =>
    intro listed s _ _ hr hy H
    refine ⟨fun h => (by rw [h] at hr; cases hr), fun j hj => ?_⟩
    by_cases hji : j = i
    · subst hji; exact ⟨hy, H⟩
    · have := ready_mono hj hji
      rw [H.1] at this
      cases this
  | succ fuel ih =>
    intro listed s hcl hfree hr hy H
    refine ⟨fun h => (by rw [h] at hr; cases hr), fun j hj => ?_⟩
    by_cases hji : j = i
    · subst hji; exact ⟨hy, H⟩
    · have h1 := H.2 j (ready_mono hj hji)
      obtain ⟨hjun, oj, hoj, hall⟩ := mem_ready.1 hj
      have hnot : reachB md ops 4 j i = false := reach_closed hcl (getD_tf (mem_ready.1 hr).1) 4 j fun o ho => by
        rw [hoj] at ho
        cases ho
        exact hall
      obtain ⟨q1, q2, q3⟩ := swap hy h1.1 (hfree j oj hoj hji hjun hnot)
      have hfree' : ∀ k ok, ops[k]? = some ok → k ≠ i → (listed.setIfInBounds j true).getD k true = false → reachB md ops 4 k i = false → indep ops E i k = true := fun k ok hk hki hun hno => by
        refine hfree k ok hk hki ?_ hno
        by_cases hjk : j = k
        · subst hjk; exact hjun
        · rw [getD_set_ne true hjk] at hun; exact hun
      refine ⟨q1, ih (listed.setIfInBounds j true) (after E j s) (hcl.set hj) hfree' (ready_mono hr (Ne.symm hji)) q2 ?_⟩
      rw [Array.setIfInBounds_comm _ _ hji]
      exact anyA_same hG fuel _ _ _ q3 h1.2

/-! ### The lexical order serves every order -/
def freeA (md : Region.Mode) (ops : Array Oper) (E : Nat → Option Fx) (listed : Array Bool) (i : Nat) : Bool :=
  (List.range ops.size).all fun j => j == i || listed.getD j true || match ops[j]? with
    | some oj => oj.after.any (fun e => Region.binds md e && e.on == i) || (indep ops E i j || reachB md ops 4 j i)
    | none => true

def lexFromA (md : Region.Mode) (ops : Array Oper) (E : Nat → Option Fx) : Nat → Nat → Array Bool → Bool
  | 0, _, listed => (Region.ready md ops listed).isEmpty
  | fuel + 1, k, listed => (Region.ready md ops listed).contains k && freeA md ops E listed k && lexFromA md ops E fuel (k + 1) (listed.setIfInBounds k true)

theorem freeA_spec {i : Nat} {listed : Array Bool} (h : freeA md ops E listed i = true) (j : Nat) (oj : Oper) (hj : ops[j]? = some oj) (hji : j ≠ i) (hun : listed.getD j true = false)
    (hno : reachB md ops 4 j i = false) : indep ops E i j = true := by
  unfold freeA at h
  have hlt : j < ops.size := (Array.getElem?_eq_some_iff.1 hj).1
  have := (List.all_eq_true.1 h) j (List.mem_range.2 hlt)
  simp only [hj, Bool.or_eq_true, beq_iff_eq] at this
  rcases this with (h1 | h1) | h1 | h1 | h1
  · exact absurd h1 hji
  · rw [hun] at h1; cases h1
  · simp only [reachB, hj, Array.any_eq_false'] at hno
    obtain ⟨e, he, hb⟩ := Array.any_eq_true'.1 h1
    simp only [Bool.and_eq_true, beq_iff_eq] at hb
    exact absurd (by simp [hb.1, hb.2]) (hno e he)
  · exact h1
  · rw [hno] at h1; cases h1

theorem anyA_lex {G : AS → Prop} (hG : ∀ s s', Same s s' → G s → G s') {E : Nat → Option Fx} : ∀ (l : List Oper) (k : Nat) (listed : Array Bool) (s : AS) (es : List Fx), Closed md ops listed → (∀ j, l[j]? = ops[k + j]?) → (∀ j, es[j]? = E (k + j)) →
    lexFromA md ops E l.length k listed = true → fxs P ops nt base orc l k s = some es → G (s.apps es) → anyA P md ops nt base orc E G l.length listed s
  | [], k, listed, s, es, _, _, _, hB, h, hg => by
    simp only [fxs, Option.some.injEq] at h
    subst h
    exact ⟨by simpa [lexFromA] using hB, hg⟩
  | o :: l, k, listed, s, es, hcl, hl, hE, hB, h, hg => by
    have h0 : ops[k]? = some o := by simpa using (hl 0).symm
    simp only [fxs] at h
    split at h
    · rename_i e he
      split at h
      · rename_i es' hes
        cases h
        have hEk : E k = some e := by simpa using (hE 0).symm
        simp only [List.length_cons, lexFromA, Bool.and_eq_true] at hB
        obtain ⟨⟨hr, hf⟩, hB'⟩ := hB
        have hr' : k ∈ Region.ready md ops listed := by simpa using hr
        have haft : after E k s = s.app e := by simp [after, hEk]
        refine anyA_first hG h0 l.length listed s hcl (freeA_spec hf) hr' ⟨o, e, h0, hEk, he⟩ ?_
        rw [haft]
        refine anyA_lex hG l (k + 1) _ _ es' (hcl.set hr') (fun j => ?_) (fun j => ?_) hB' hes hg
        · have := hl (j + 1)
          simpa [Nat.add_assoc, Nat.add_comm 1 j] using this
        · have := hE (j + 1)
          simpa [Nat.add_assoc, Nat.add_comm 1 j] using this
      · cases h
    · cases h

theorem closed_none (n : Nat) : Closed md ops (Array.replicate n false) := fun j o _ hj => by
  rcases Nat.lt_or_ge j n with h' | h'
  · simp [h'] at hj
  · simp [Array.getElem?_eq_none, h'] at hj

end

/-- What is known while a region is under way. -/
def KL (base : Nat) (listed : Array Bool) : Nat → Prop := fun id => id < base ∨ ∃ j, listed.getD j false = true ∧ id = base + j

theorem any_sound {cx : Cx} {md : Region.Mode} {ops : Array Oper} {base : Nat} {orc : List (Nat × RV × Bool)} {E : Nat → Option Fx} {G : AS → Prop} {Q : Exit → Act → World → Prop}
    (hh : ∀ i e, E i = some e → e.Holds cx.P) (hQ : ∀ β s a w listed, G s → listed.size = ops.size → Good cx β (KL base listed) s a w → Q .normal a w) : ∀ (fuel : Nat) (listed : Array Bool) (s : AS) (β : Nat → Value) (a : Act) (w : World),
    listed.size = ops.size → anyA cx.P md ops cx.nt base orc E G fuel listed s → Good cx β (KL base listed) s a w → wpAny cx.P md ops Q fuel listed a w
  | 0, listed, s, β, a, w, hsz, h, hg => ⟨h.1, hQ β s a w listed h.2 hsz hg⟩
  | fuel + 1, listed, s, β, a, w, hsz, h, hg => by
    refine ⟨fun h0 => hQ β s a w listed (h.1 h0) hsz hg, fun i hi => ?_⟩
    obtain ⟨⟨o, e, i1, i2, i3⟩, h2⟩ := h.2 i hi
    have hun := (mem_ready.1 hi).1
    have hilt : i < listed.size := by rw [hsz]; exact (Array.getElem?_eq_some_iff.1 i1).1
    have hn : ¬ KL base listed (base + i) := by
      rintro (hk | ⟨j, hj, hk⟩)
      · omega
      · have : i = j := by omega
        subst this
        simp [hilt] at hun hj
        rw [hun] at hj; cases hj
    refine fx_sound hg hn i1 i3 (hh i e i2) fun v w' β' hg' => ?_
    have haft : after E i s = s.app e := by simp [after, i2]
    rw [haft] at h2
    refine any_sound hh hQ fuel (listed.setIfInBounds i true) (s.app e) β' _ w' (by simpa using hsz) h2 (hg'.monoK fun id hid => ?_)
    rcases hid with (hid | ⟨j, hj, hid⟩) | hid
    · exact .inl hid
    · refine .inr ⟨j, ?_, hid⟩
      by_cases hij : i = j
      · subst hij
        simp [hilt]
      · rw [getD_set_ne false hij]; exact hj
    · exact .inr ⟨i, by simp [hilt], hid⟩

end Go.Proofs.YtcaahmielncmpaaGreat

namespace Go.Proofs.YtcaahmielncmpaaGreat
open Go Go.RowKit

/-! ## Code, on abstract states -/
def awp (cx : Cx) (c : Code) (Q : Exit → AS → Prop) (s : AS) : Prop :=
  ∀ β a w, Good cx β (Below' s.next) s a w → c.wp cx.P (fun e a' w' => ∃ s' β', Q e s' ∧ Good cx β' (Below' s'.next) s' a' w') a w

def conc (cx : Cx) (Q : Exit → AS → Prop) : Exit → Act → World → Prop := fun e a' w' => ∃ s' β', Q e s' ∧ Good cx β' (Below' s'.next) s' a' w'

section
variable {cx : Cx} {s : AS} {Q : Exit → AS → Prop}

theorem awp_mono {c : Code} {Q' : Exit → AS → Prop} (h : awp cx c Q s) (hq : ∀ e s, Q e s → Q' e s) : awp cx c Q' s :=
  fun β a w hg => wp_mono (h β a w hg) fun _ _ _ ⟨s', β', h1, h2⟩ => ⟨s', β', hq _ _ h1, h2⟩

theorem awp_skip (h : Q .normal s) : awp cx .skip Q s := fun β a w hg => wp_skip ⟨s, β, h, hg⟩
theorem awp_ret (h : Q .ret s) : awp cx .ret Q s := fun β a w hg => wp_ret ⟨s, β, h, hg⟩
theorem awp_exit {id : Nat} (h : Q (.exit id) s) : awp cx (.exit id) Q s := fun β a w hg => wp_exit ⟨s, β, h, hg⟩

def thenA (next : AS → Prop) (Q : Exit → AS → Prop) : Exit → AS → Prop
  | .normal, s => next s
  | e, s => Q e s

theorem awp_seq {x y : Code} (h : awp cx x (thenA (awp cx y Q) Q) s) : awp cx (.seq x y) Q s := fun β a w hg => by
  refine wp_seq (wp_mono (h β a w hg) fun e a' w' ⟨s', β', h1, h2⟩ => ?_)
  cases e with
  | normal => exact h1 β' a' w' h2
  | _ => exact ⟨s', β', h1, h2⟩

theorem awp_cond {c : Operand} {x y : Code} {b : Bool} {fr : Bool} (hc : s.ev c = some (.v (.one (.c (.bool b) fr)))) (ht : b = true → awp cx x Q s) (hf : b = false → awp cx y Q s) : awp cx (.cond c x y) Q s := fun β a w hg => by
  have h1 := (ev_sound hg hc).1
  simp only [gV, g1, gC, Rep] at h1
  exact wp_cond_split h1 (fun e => ht e β a w hg) (fun e => hf e β a w hg)

def inBlockA (id : Nat) (Q : Exit → AS → Prop) : Exit → AS → Prop
  | .exit id', s => if id' = id then Q .normal s else Q (.exit id') s
  | e, s => Q e s

theorem awp_block {id : Nat} {c : Code} (h : awp cx c (inBlockA id Q) s) : awp cx (.block id c) Q s := fun β a w hg => by
  refine wp_block (wp_mono (h β a w hg) fun e a' w' ⟨s', β', h1, h2⟩ => ?_)
  cases e with
  | exit id' =>
    simp only [inBlockA] at h1
    simp only [Exit.inBlock]
    split at h1
    · rename_i e; rw [if_pos e]; exact ⟨s', β', h1, h2⟩
    · rename_i e; rw [if_neg e]; exact ⟨s', β', h1, h2⟩
  | _ => exact ⟨s', β', h1, h2⟩

theorem awp_loop {c : Code} (I : Nat → AS → Prop) (n : Nat) (h0 : I n s) (round : ∀ n s, I n s → awp cx c (thenA (fun s' => ∃ n', n' < n ∧ I n' s') Q) s) : awp cx (.loop c) Q s := fun β a w hg => by
  refine wp_loop_ghost (fun n a w => ∃ s β, I n s ∧ Good cx β (Below' s.next) s a w) n ⟨s, β, h0, hg⟩ ?_
  rintro n a w ⟨s, β, hI, hg⟩
  refine wp_mono (round n s hI β a w hg) fun e a' w' ⟨s', β', h1, h2⟩ => ?_
  cases e with
  | normal =>
    obtain ⟨n', hlt, hI'⟩ := h1
    exact ⟨n', hlt, s', β', hI', h2⟩
  | _ => exact ⟨s', β', h1, h2⟩

/-- Forgetting: every look-up of s' is one of s; what s' speaks of lies below its own count. -/
structure Forget (s s' : AS) : Prop where
  get : ∀ t av, s'.get t = some av → s.get t = some av
  obj : ∀ id o, s'.obj id = some o → s.obj id = some o
  wf : WF (Below' s'.next) s'

theorem Forget.good {β : Nat → Value} {a : Act} {w : World} {s' : AS} {K : Nat → Prop} (h : Forget s s') (hg : Good cx β K s a w) : Good cx β (Below' s'.next) s' a w := by
  have hs : Step cx K β s w β s' w := ⟨Nat.le_refl _, fun _ _ _ => rfl, fun b _ hm => by
      rcases hm with hm | ⟨i, o, h1, h2⟩
      · exact .inl hm
      · exact .inr ⟨i, o, h.obj i o h1, h2⟩, fun i _ hl => ⟨by
      obtain ⟨o, ho⟩ := Option.isSome_iff_exists.1 hl
      rw [h.obj i o ho]; rfl, rfl⟩⟩
  refine ⟨hg.ext, hg.sb, hg.fb, hg.defers, hg.size, h.wf, ?_, ?_, ?_⟩
  · intro t av hh
    obtain ⟨v, h1, h2⟩ := hg.slots t av (h.get t av hh)
    exact ⟨v, h1, hs.gV (hg.wf.env t av (h.get t av hh)) h2⟩
  · intro id o hh
    exact hs.gO (hg.wf.heap id o (h.obj id o hh)).2 (fun _ _ => rfl) (hg.objs id o (h.obj id o hh))
  · intro i i' o o' h1 h2
    exact hg.inj i i' o o' (h.obj _ _ h1) (h.obj _ _ h2)

/-! ### regions -/
theorem awp_region {id : Nat} {l : List Oper} {es : List Fx} (orc : List (Nat × RV × Bool)) (h : fxs cx.P l.toArray cx.nt s.next orc l 0 s = some es) (hh : ∀ e ∈ es, e.Holds cx.P) (hq : Q .normal (s.behindRegion es)) :
    awp cx (.region id l.toArray false) Q s := fun β a w hg => by
  have hlen : ∀ (l : List Oper) (i : Nat) (s : AS) (es : List Fx) (ops : Array Oper) (base : Nat), fxs cx.P ops cx.nt base orc l i s = some es → es.length = l.length := by
    intro l
    induction l with
    | nil => intro i s es ops base h; simp only [fxs, Option.some.injEq] at h; subst h; rfl
    | cons o l ih =>
      intro i s es ops base h
      simp only [fxs] at h
      split at h
      · split at h
        · rename_i es' hes
          cases h
          simp [ih _ _ _ _ _ hes]
        · cases h
      · cases h
  show (Code.region id l.toArray false).wp cx.P (conc cx Q) a w
  refine wp_region ?_
  have := lex_sound (cx := cx) (ops := l.toArray) (Q := conc cx Q) (base := s.next) (orc := orc) l 0 s es β a w (fun j => by simp) h hh (by simpa using hg) (fun β' a' w' hg' => by
    refine ⟨s.behindRegion es, β', hq, ?_⟩
    rw [Nat.add_zero] at hg'
    have e : (s.behindRegion es).next = s.next + l.length := by simp [AS.behindRegion, hlen _ _ _ _ _ _ h]
    rw [e]
    exact Same.good (s := s.apps es) (s' := s.behindRegion es) ⟨fun _ => rfl, fun _ => rfl⟩ hg')
  simpa [List.range_eq_range'] using this

theorem awp_region_draw {id : Nat} {l : List Oper} {es : List Fx} (hm : cx.P.follows .mixedOrders = true) (orc : List (Nat × RV × Bool)) (h : fxs cx.P l.toArray cx.nt s.next orc l 0 s = some es)
    (hB : lexFromA .any l.toArray (fun i => es[i]?) l.length 0 (Array.replicate l.length false) = true) (hh : ∀ e ∈ es, e.Holds cx.P) (hq : Q .normal (s.behindRegion es)) :
    awp cx (.region id l.toArray true) Q s := fun β a w hg => by
  have hlen : ∀ (l : List Oper) (i : Nat) (s : AS) (es : List Fx) (ops : Array Oper) (base : Nat), fxs cx.P ops cx.nt base orc l i s = some es → es.length = l.length := by
    intro l
    induction l with
    | nil => intro i s es ops base h; simp only [fxs, Option.some.injEq] at h; subst h; rfl
    | cons o l ih =>
      intro i s es ops base h
      simp only [fxs] at h
      split at h
      · split at h
        · rename_i es' hes
          cases h
          simp [ih _ _ _ _ _ hes]
        · cases h
      · cases h
  have hl := hlen _ _ _ _ _ _ h
  show (Code.region id l.toArray true).wp cx.P (conc cx Q) a w
  refine wp_region_any hm ?_
  have hA := anyA_lex (P := cx.P) (md := .any) (ops := l.toArray) (nt := cx.nt) (base := s.next) (orc := orc) (G := fun s' => Same (s.apps es) s') (E := fun i => es[i]?) (fun s1 s2 h1 h2 => ⟨fun t => by rw [h1.get, h2.get], fun i => by rw [h1.obj, h2.obj]⟩)
    l 0 (Array.replicate l.length false) s es (closed_none _) (fun j => by simp) (fun j => by simp) hB h ⟨fun _ => rfl, fun _ => rfl⟩
  obtain ⟨hgw, _⟩ := hg.world (w' := { w with drawn := w.drawn + 1 }) ((Below.refl _ _).drew)
  have := any_sound (cx := cx) (md := .any) (ops := l.toArray) (base := s.next) (orc := orc) (E := fun i => es[i]?) (G := fun s' => Same (s.apps es) s') (Q := conc cx Q)
    (fun i e hie => hh e (List.mem_of_getElem? hie)) (fun β' s' a' w' listed hs hsz hg' => by
      refine ⟨s.behindRegion es, β', hq, ?_⟩
      have e : (s.behindRegion es).next = s.next + l.length := by simp [AS.behindRegion, hl]
      rw [e]
      have hsame : Same s' (s.behindRegion es) := ⟨fun t => (hs.get t).symm, fun i => (hs.obj i).symm⟩
      refine (hsame.good hg').monoK fun id hid => ?_
      rcases hid with hid | ⟨j, hj, hid⟩
      · simp only [Below']; omega
      · simp only [Below']
        have : j < listed.size := by
          rcases Nat.lt_or_ge j listed.size with h | h
          · exact h
          · simp [Array.getElem?_eq_none h] at hj
        simp at hsz
        omega) l.length (Array.replicate l.length false) s β a _ (by simp) hA (hgw.monoK fun _ h => .inl h)
  simpa using this

end

/-! ## A function's body and its contract -/
def AS.resVar (P : Program) (s : AS) : ResultVar → Option A1
  | .tmp t => match s.get t with
    | some (.v x) => some x
    | _ => none
  | .cell a T => match tabOf P T, s.get a with
    | some te, some (.v (.one (.ptr id 0))) => match s.obj id with
      | some (.box cells) => if te.agg then (if cells.length = te.size then some (.agg cells) else none) else match cells with
        | [x] => some (.one x)
        | _ => none
      | _ => none
    | _, _ => none

def AS.resVars (P : Program) (s : AS) : List ResultVar → Option (List A1)
  | [] => some []
  | r :: rs => match s.resVar P r, s.resVars P rs with
    | some x, some xs => some (x :: xs)
    | _, _ => none

def AS.ivOf (s : AS) : A1 → Option (IV × Bool)
  | .one x => match s.resC x with
    | some (c, fr, _) => some (.one c, fr)
    | none => none
  | .agg xs => match s.resCs xs with
    | some (cs, fr, _) => some (.agg cs, fr)
    | none => none

def AS.ivsOf (s : AS) : List A1 → Option (List IV × Bool)
  | [] => some ([], true)
  | x :: xs => match s.ivOf x, s.ivsOf xs with
    | some (y, fr), some (ys, fr') => some (y :: ys, fr && fr')
    | _, _ => none

/-- Nil, or a pointer to a number and a row of numbers. -/
def asInts : List (List C) → Option (List Int)
  | [] => some []
  | [.int n] :: l => match asInts l with
    | some l => some (n :: l)
    | none => none
  | _ => none
def AS.fbOf (s : AS) : A1 → Option (Option (Int × Nat × List Int))
  | .one .nilp => some none
  | .one (.fb o) => some o
  | .one (.ptr id 0) => match s.obj id with
    | some (.box [.c (.int k) _, .nils]) => some (some (k, fbE, []))
    | some (.box [.c (.int k) _, .arr i]) => match s.obj i with
      | some (.row e 1 rows _) => match asInts rows with
        | some l => some (some (k, e, l))
        | none => none
      | _ => none
    | _ => none
  | _ => none
def AS.ivsB (s : AS) : List A1 → Option (List IV × Option (Int × Nat × List Int) × Bool)
  | [] => none
  | [x] => match s.fbOf x with
    | some o => some ([], o, true)
    | none => none
  | x :: xs => match s.ivOf x, s.ivsB xs with
    | some (y, fr), some (ys, o, fr') => some (y :: ys, o, fr && fr')
    | _, _ => none

/-- The result of a body; 'own': a slice of the call's own is handed on as such. -/
def AS.result (P : Program) (own : Bool) (s : AS) (rs : List ResultVar) : Option (RV × Bool) :=
  match s.resVars P rs with
  | some [x] => match own, x with
    | true, .one (.arr id) => match s.obj id with
      | some (.row e sz rows fr) => some (.own e sz rows, fr)
      | _ => none
    | true, _ => none
    | false, x => match s.ivOf x with
      | some (y, fr) => some (.v y, fr)
      | none => none
  | some xs => match s.ivsOf xs with
    | some (ys, fr) => some (.tup ys, fr)
    | none => match s.ivsB xs with
      | some (ys, o, fr) => some (.tupb ys o, fr)
      | none => none
  | none => none

def startEnv : Nat → List IV → List (Nat × AV)
  | _, [] => []
  | i, x :: xs => (i, argAV x) :: startEnv (i + 1) xs

def start (args : List IV) : AS := { env := startEnv 0 args, heap := [], next := 0 }

def Done (P : Program) (own : Bool) (rs : List ResultVar) (r : RV) (fr : Bool) : Exit → AS → Prop := fun e s =>
  (e = .ret ∨ e = .normal) ∧ ∃ fr', s.result P own rs = some (r, fr') ∧ (fr = true → fr' = true)

/-- The arguments at the beginning; p: they count as new. -/
def argAVp (p : Bool) : IV → AV
  | .one x => .v (.one (.c x p))
  | .agg xs => .v (.agg (xs.map (.c · p)))
  | .ro xs => .v (.one (.ro xs))
def startEnvP (p : Bool) : Nat → List IV → List (Nat × AV)
  | _, [] => []
  | i, x :: xs => (i, argAVp p x) :: startEnvP p (i + 1) xs
def startP (p : Bool) (args : List IV) : AS := { env := startEnvP p 0 args, heap := [], next := 0 }
theorem startEnvP_get (p : Bool) : ∀ (args : List IV) (i t : Nat) (av : AV), (startEnvP p i args).lookup t = some av → ∃ j x, args[j]? = some x ∧ t = i + j ∧ av = argAVp p x
  | [], i, t, av, h => by simp [startEnvP] at h
  | x :: xs, i, t, av, h => by
    simp only [startEnvP, List.lookup_cons] at h
    by_cases e : t = i
    · subst e
      simp at h
      exact ⟨0, x, rfl, rfl, h.symm⟩
    · have : (t == i) = false := by simpa using e
      rw [this] at h
      obtain ⟨j, y, h1, h2, h3⟩ := startEnvP_get p xs (i + 1) t av h
      exact ⟨j + 1, y, by simpa using h1, by omega, h3⟩

section
variable {cx : Cx} {K : Nat → Prop} {β : Nat → Value} {s : AS} {a : Act} {w : World}

theorem resVar_sound (hg : Good cx β K s a w) {r : ResultVar} {x : A1} (h : s.resVar cx.P r = some x) {g : ResultVar → Sem Value} (hgd : g = fun | .tmp t => pure (a.tmps.getD t Go.undef) | .cell p t => do loadVar t (← asAddr (a.tmps.getD p Go.undef))) :
    ∃ v, (g r).run cx.P w = .ok v w ∧ g1 cx β s w x v := by
  subst hgd
  cases r with
  | tmp t =>
    simp only [AS.resVar] at h
    split at h
    · rename_i y hy
      cases h
      obtain ⟨v, h1, h2⟩ := hg.slots t _ hy
      exact ⟨v, by simp [Array.getD_eq_getD_getElem?, h1], h2⟩
    · cases h
  | cell p T =>
    simp only [AS.resVar] at h
    split at h
    · rename_i te id ht hp
      obtain ⟨v, h1, h2⟩ := hg.slots p _ hp
      split at h
      · rename_i cells hob
        obtain ⟨b', h5, h6⟩ := h2.2 (by rw [hob]; rfl)
        obtain ⟨b, T', vs, q1, q2, q3, q4⟩ := hg.objs id _ hob
        rw [q1] at h5
        simp [blkOf] at h5
        subst h5
        have hrange : w.rangeAt b 0 vs.toList := fun j u hu => by
          simp [World.cell?, q3]
          simpa using hu
        split at h
        · rename_i hagg
          split at h
          · rename_i hl
            cases h
            refine ⟨.agg vs, ?_, ⟨vs.toList, by simp, q4⟩⟩
            have := run_loadVar_agg ht hagg hrange (q4.length.symm.trans hl)
            simp [Array.getD_eq_getD_getElem?, h1, h6, asAddr, this]
          · cases h
        · rename_i hagg
          split at h
          · rename_i x0
            cases h
            have hv : ∃ u, vs.toList = [u] ∧ gC cx β s w x0 u := by
              generalize vs.toList = l at q4
              cases q4 with
              | cons hh ht =>
                cases ht
                exact ⟨_, rfl, hh⟩
            obtain ⟨u, hu1, hu2⟩ := hv
            refine ⟨u, ?_, hu2⟩
            have hc : w.cell? ⟨b, 0, none⟩ = some u := by
              have := hrange 0 u (by rw [hu1]; rfl)
              simpa using this
            simp [Array.getD_eq_getD_getElem?, h1, h6, asAddr, run_loadVar_one ht (by simpa using hagg) hc]
          · cases h
      · cases h
    · cases h

theorem resVars_sound (hg : Good cx β K s a w) {g : ResultVar → Sem Value} (hgd : g = fun | .tmp t => pure (a.tmps.getD t Go.undef) | .cell p t => do loadVar t (← asAddr (a.tmps.getD p Go.undef))) :
    ∀ {rs : List ResultVar} {xs : List A1}, s.resVars cx.P rs = some xs → ∃ vs, (rs.mapM g).run cx.P w = .ok vs w ∧ All2 (g1 cx β s w) xs vs
  | [], xs, h => by
    simp only [AS.resVars, Option.some.injEq] at h
    subst h
    exact ⟨[], by simp, .nil⟩
  | r :: rs, xs, h => by
    simp only [AS.resVars] at h
    split at h
    · rename_i x xs' h1 h2
      cases h
      obtain ⟨v, r1, r2⟩ := resVar_sound hg h1 hgd
      obtain ⟨vs, r3, r4⟩ := resVars_sound hg hgd h2
      exact ⟨v :: vs, by simp [List.mapM_cons, r1, r3], .cons r2 r4⟩
    · cases h

theorem ivOf_sound (hg : Good cx β K s a w) {x : A1} {v : Value} (hx : g1 cx β s w x v) {y : IV} {fr fr' : Bool} (h : s.ivOf x = some (y, fr')) (hf : fr = true → fr' = true) : gI cx.F cx.S w fr y v := by
  have hS : ∀ b, cx.S b → Mut cx β s b := fun b h => .inl h
  cases x with
  | one x =>
    simp only [AS.ivOf] at h
    split at h
    · rename_i c f ids hres
      cases h
      exact (resC_sound hg hres hx (M' := cx.S) hS (fun id hi b hb hs => by
        obtain ⟨o, ho⟩ := resC_live hres id hi
        have h1 := (hg.blk ho hb).1
        have h2 := hg.sb b hs
        omega)).weaken (fun _ h => h) hf
    · cases h
  | agg xs =>
    simp only [AS.ivOf] at h
    split at h
    · rename_i cs f ids hres
      cases h
      obtain ⟨vs, h1, h2⟩ := hx
      refine ⟨vs, h1, (resCs_sound hg (M' := cx.S) hS hres h2 (fun id hi b hb hs => by
        obtain ⟨o, ho⟩ := resCs_live hres id hi
        have h1 := (hg.blk ho hb).1
        have h2 := hg.sb b hs
        omega)).mono fun _ _ r => r.weaken (fun _ h => h) hf⟩
    · cases h

theorem ivsOf_sound (hg : Good cx β K s a w) : ∀ {xs : List A1} {vs : List Value} {ys : List IV} {fr fr' : Bool}, All2 (g1 cx β s w) xs vs → s.ivsOf xs = some (ys, fr') → (fr = true → fr' = true) → All2 (gI cx.F cx.S w fr) ys vs
  | [], vs, ys, fr, fr', hx, h, _ => by
    simp only [AS.ivsOf, Option.some.injEq, Prod.mk.injEq] at h
    obtain ⟨rfl, rfl⟩ := h
    cases hx; exact .nil
  | x :: xs, vs, ys, fr, fr', hx, h, hf => by
    simp only [AS.ivsOf] at h
    split at h
    · rename_i y f1 ys' f2 h1 h2
      simp only [Option.some.injEq, Prod.mk.injEq] at h
      obtain ⟨rfl, rfl⟩ := h
      cases hx with
      | cons h3 h4 => exact .cons (ivOf_sound hg h3 h1 (fun h => by have := hf h; simp at this; exact this.1)) (ivsOf_sound hg h4 h2 (fun h => by have := hf h; simp at this; exact this.2))
    · cases h

theorem asInts_flat : ∀ {rows : List (List C)} {l : List Int}, asInts rows = some l → rows.flatten = l.map C.int ∧ rows.length = l.length
  | [], l, h => by cases h; exact ⟨rfl, rfl⟩
  | r :: rs, l, h => by
    unfold asInts at h
    split at h
    · rename_i e; cases e
    · rename_i e
      cases e
      split at h
      · rename_i h1
        cases h
        obtain ⟨i1, i2⟩ := asInts_flat h1
        exact ⟨by simp [i1], by simp [i2]⟩
      · cases h
    · cases h
theorem all2_ints {ok : Nat → Nat → Prop} : ∀ {l : List Int} {xs : List Value}, All2 (Rep ok w) (l.map C.int) xs → xs = l.map (Value.int .i64)
  | [], _, h => by cases h; rfl
  | n :: l, _, h => by
    cases h with
    | cons h1 h2 =>
      simp only [Rep] at h1
      rw [h1, all2_ints h2]; rfl

theorem fbOf_sound (hg : Good cx β K s a w) {x : A1} {v : Value} (hx : g1 cx β s w x v) {o : Option (Int × Nat × List Int)} (h : s.fbOf x = some o) : FB cx.N cx.S w o v := by
  unfold AS.fbOf at h
  split at h
  · cases h; exact hx
  · cases h
    exact FB.keep (Nat.le_refl _) (fun _ _ _ => rfl) (fun k _ _ hm => .inl hm) hx
  · rename_i id
    have hlt : ∀ b, cx.N ≤ b → ¬ cx.S b := fun b h1 h2 => by
      have := hg.sb b h2
      omega
    split at h
    · rename_i k f hob
      cases h
      obtain ⟨b', h5, h6⟩ := hx.2 (by rw [hob]; rfl)
      obtain ⟨b, T, vs, q1, q2, q3, q4⟩ := hg.objs id _ hob
      rw [q1] at h5
      simp [blkOf] at h5
      subst h5
      have hvs : vs.toList = [.int .i64 k, .slice none 0 0] := by
        generalize vs.toList = l at q4
        cases q4 with
        | cons r1 r2 =>
          cases r2 with
          | cons r3 r4 =>
            cases r4
            simp only [gC, Rep] at r1 r3
            rw [r1, r3]
      refine ⟨b, T, .slice none 0 0, h6, q2, hlt b q2, ?_, ⟨rfl, .inl ⟨rfl, rfl⟩⟩, fun g hgg => by simp [blkOf] at hgg⟩
      rw [q3]
      rw [show vs = #[.int .i64 k, .slice none 0 0] from Array.ext' (by simpa using hvs)]
    · rename_i k f i hob
      split at h
      · rename_i e rows f' hrow
        split at h
        · rename_i l hl
          cases h
          obtain ⟨b', h5, h6⟩ := hx.2 (by rw [hob]; rfl)
          obtain ⟨b, T, vs, q1, q2, q3, q4⟩ := hg.objs id _ hob
          rw [q1] at h5
          simp [blkOf] at h5
          subst h5
          have hvs : vs.toList = [.int .i64 k, β i] := by
            generalize vs.toList = l at q4
            cases q4 with
            | cons r1 r2 =>
              cases r2 with
              | cons r3 r4 =>
                cases r4
                simp only [gC, Rep] at r1
                rw [r1, r3.2 (by rw [hrow]; rfl)]
          obtain ⟨p1, p2, xs, p3, p4⟩ := hg.objs i _ hrow
          obtain ⟨i1, i2⟩ := asInts_flat hl
          rw [i1] at p4
          have hxs := all2_ints p4
          subst hxs
          rw [i2] at p3
          have hne : i ≠ id := by
            intro e
            subst e
            rw [hob] at hrow
            cases hrow
          refine ⟨b, T, β i, h6, q2, hlt b q2, ?_, p3, fun g hgg => ⟨?_, ?_⟩⟩
          · rw [q3]
            rw [show vs = #[.int .i64 k, β i] from Array.ext' (by simpa using hvs)]
          · rcases p3.2 with ⟨hn, _⟩ | ⟨g', cap, cur, hv, hgg', hh, rest⟩
            · rw [hn] at hgg; simp [blkOf] at hgg
            · rw [hv] at hgg; simp [blkOf] at hgg; subst hgg
              exact hlt _ hgg'
          · rintro rfl
            exact hg.inj i id _ _ hrow hob hne g hgg (by rw [q1]; rfl)
        · cases h
      · cases h
    · cases h
  · cases h

theorem ivsB_sound (hg : Good cx β K s a w) : ∀ {xs : List A1} {vs : List Value} {ys : List IV} {o : Option (Int × Nat × List Int)} {fr fr' : Bool}, All2 (g1 cx β s w) xs vs → s.ivsB xs = some (ys, o, fr') → (fr = true → fr' = true) →
    ∃ vs' u, vs = vs' ++ [u] ∧ All2 (gI cx.F cx.S w fr) ys vs' ∧ FB cx.N cx.S w o u
  | [], vs, ys, o, fr, fr', hx, h, _ => by cases h
  | [x], vs, ys, o, fr, fr', hx, h, _ => by
    simp only [AS.ivsB] at h
    split at h
    · rename_i o' ho
      cases h
      cases hx with
      | cons h3 h4 =>
        cases h4
        exact ⟨[], _, rfl, .nil, fbOf_sound hg h3 ho⟩
    · cases h
  | x :: x' :: xs, vs, ys, o, fr, fr', hx, h, hf => by
    simp only [AS.ivsB] at h
    split at h
    · rename_i y f1 ys' o' f2 h1 h2
      simp only [Option.some.injEq, Prod.mk.injEq] at h
      obtain ⟨rfl, rfl, rfl⟩ := h
      cases hx with
      | cons h3 h4 =>
        obtain ⟨vs', u, e1, e2, e3⟩ := ivsB_sound hg (xs := x' :: xs) h4 h2 (fun h => by have := hf h; simp at this; exact this.2)
        exact ⟨_ :: vs', u, by rw [e1]; rfl, .cons (ivOf_sound hg h3 h1 (fun h => by have := hf h; simp at this; exact this.1)) e2, e3⟩
    · cases h

/-- The body's result is the call's. -/
theorem result_sound (hg : Good cx β K s a w) {fn : Func} {own : Bool} {r : RV} {fr fr' : Bool} (h : s.result cx.P own fn.results.toList = some (r, fr')) (hf : fr = true → fr' = true) :
    ∃ v, (results fn a.tmps).run cx.P w = .ok v w ∧ gR cx.N cx.F cx.S w fr r v := by
  unfold AS.result at h
  have hrun : ∀ {vs : List Value}, (fn.results.toList.mapM (fun (r : ResultVar) => (match r with | .tmp t => pure (a.tmps.getD t Go.undef) | .cell p t => do loadVar t (← asAddr (a.tmps.getD p Go.undef)) : Sem Value))).run cx.P w = .ok vs w →
      (results fn a.tmps).run cx.P w = .ok (if h : vs.toArray.size = 1 then vs.toArray[0] else .tuple vs.toArray) w := by
    intro vs hv
    unfold results
    rw [Array.mapM_eq_mapM_toList]
    simp only [map_eq_pure_bind, bind_assoc, Sem.run_bind, pure_bind, Sem.run_pure]
    erw [hv]
    rfl
  split at h
  · rename_i x hxs
    obtain ⟨vs, r1, r2⟩ := resVars_sound hg rfl hxs
    cases r2 with
    | cons r2 r3 =>
      cases r3
      rename_i v
      refine ⟨v, by simpa using hrun r1, ?_⟩
      split at h
      · rename_i id
        split at h
        · rename_i e sz rows f hob
          simp only [Option.some.injEq, Prod.mk.injEq] at h
          obtain ⟨rfl, rfl⟩ := h
          have hv : v = β id := r2.2 (by rw [hob]; rfl)
          rw [hv]
          obtain ⟨q1, q2, xs, q3, q4⟩ := hg.objs id _ hob
          exact ⟨q1, q2, xs, q3, q4.mono fun _ _ hr => hr.weaken (fun b hb => by
            rcases hb with hb | hb
            · exact .inl hb
            · exact .inr ⟨id, _, hob, hb⟩) hf⟩
        · cases h
      · cases h
      · split at h
        · rename_i y f hy
          simp only [Option.some.injEq, Prod.mk.injEq] at h
          obtain ⟨rfl, rfl⟩ := h
          exact ivOf_sound hg r2 hy hf
        · cases h
  · rename_i xs hne hxs
    obtain ⟨vs, r1, r2⟩ := resVars_sound hg rfl hxs
    split at h
    · rename_i ys f hy
      simp only [Option.some.injEq, Prod.mk.injEq] at h
      obtain ⟨rfl, rfl⟩ := h
      have hl : vs.toArray.size ≠ 1 := by
        intro e
        have : xs.length = 1 := by rw [r2.length]; simpa using e
        match xs, this with
        | [x], _ => exact hne x rfl
      refine ⟨.tuple vs.toArray, ?_, ⟨vs, rfl, ivsOf_sound hg r2 hy hf⟩⟩
      have := hrun r1
      rw [dif_neg hl] at this
      exact this
    · split at h
      · rename_i ys o f hy
        simp only [Option.some.injEq, Prod.mk.injEq] at h
        obtain ⟨rfl, rfl⟩ := h
        have hl : vs.toArray.size ≠ 1 := by
          intro e
          have : xs.length = 1 := by rw [r2.length]; simpa using e
          match xs, this with
          | [x], _ => exact hne x rfl
        obtain ⟨vs', u, e1, e2, e3⟩ := ivsB_sound hg r2 hy hf
        refine ⟨.tuple vs.toArray, ?_, ⟨vs', u, by rw [e1], e2, e3⟩⟩
        have := hrun r1
        rw [dif_neg hl] at this
        exact this
      · cases h
  · cases h

end

/-- What the body gives back. -/
def RV.unpass : RV → RV
  | .pass x => .v x
  | r => r
theorem acalls_of_awp {P : Program} {f : FuncId} {fn : Func} {c : Code} (hf : P.funcs[f]? = some fn) (hb : fn.body = some c) (hcall : Callable P f) {args : List IV} {r : RV} {fr : Bool} (own : Bool) (hsh : r.sh = none)
    (hnt : args.length ≤ fn.ntmps)
    (h : ∀ w0 S F, F ≤ w0.heap.size → (r.isPass = false → F = w0.heap.size) → awp { P := P, w0 := w0, S := S, nt := fn.ntmps, F := F } c (Done P own fn.results.toList r.unpass (fr || r.isPass)) (startP r.isPass args)) : ACalls P f args r fr := by
  refine ⟨hcall, fun w S F vs hF hFp hS hargs => ?_⟩
  replace hargs : All2 (gI F S w r.isPass) args vs := by
    unfold ArgsG at hargs
    rw [hsh] at hargs
    exact hargs
  have hlen : args.length = vs.length := hargs.length
  refine calls_of_wp hf hb ?_
  have hg : Good { P := P, w0 := w, S := S, nt := fn.ntmps, F := F } (fun _ => .nilIface) (Below' 0) (startP r.isPass args) { tmps := vs.toArray ++ Array.replicate (fn.ntmps - vs.toArray.size) Go.undef, defers := [] } w := by
    refine ⟨Below.refl _ _, hS, hF, rfl, by simp; omega, ⟨?_, ?_⟩, ?_, ?_, ?_⟩
    · intro t av h
      obtain ⟨j, x, h1, h2, rfl⟩ := startEnvP_get _ args 0 t av h
      cases x with
      | one x => trivial
      | agg xs =>
        intro y hy
        obtain ⟨z, _, rfl⟩ := List.mem_map.1 hy
        trivial
      | ro xs => trivial
    · intro id o h
      simp [startP, AS.obj] at h
    · intro t av h
      obtain ⟨j, x, h1, h2, rfl⟩ := startEnvP_get _ args 0 t av h
      obtain ⟨v, h3, h4⟩ := hargs.get j x h1
      refine ⟨v, ?_, ?_⟩
      · rw [h2, Nat.zero_add, Array.getElem?_append_left (by
          have := (List.getElem?_eq_some_iff.1 h3).1
          simpa using this)]
        simpa using h3
      · have hM : ∀ (p : Bool) (b off : Nat), okA F S w p b off → okA F (Mut { P := P, w0 := w, S := S, nt := fn.ntmps, F := F } (fun _ => .nilIface) (startP r.isPass args)) w p b off := by
          rintro p b off ⟨k1, k2, k0⟩
          refine ⟨k1, ?_, k0⟩
          rintro (k3 | ⟨id, o, k3, _⟩)
          · exact k2 k3
          · simp [startP, AS.obj] at k3
        cases x with
        | one x => exact h4.mono (hM _) (fun _ _ _ _ _ h => h)
        | agg xs =>
          obtain ⟨us, h5, h6⟩ := h4
          exact ⟨us, h5, All2.map_left (fun x => AC.c x r.isPass) (h6.mono fun _ _ q => q.mono (hM _) (fun _ _ _ _ _ h => h))⟩
        | ro xs =>
          obtain ⟨b, off, k1, k2, k3, k4⟩ := h4
          refine ⟨b, off, k1, k2, ?_, k4.mono (hM _) (fun _ _ _ _ _ h => h) (fun _ _ h => h)⟩
          rintro (k5 | ⟨id, o, k5, _⟩)
          · exact k3 k5
          · simp [startP, AS.obj] at k5
    · intro id o h
      simp [startP, AS.obj] at h
    · intro id id' o o' h1
      simp [startP, AS.obj] at h1
  refine wp_mono (h w S F hF hFp (fun _ => .nilIface) _ w hg) ?_
  rintro e a' w' ⟨s', β', ⟨he, fr', hr, hf'⟩, hg'⟩
  obtain ⟨v, hv, hres⟩ := result_sound hg' hr hf'
  have hres' : gR w.heap.size F S w' fr r v := by
    cases r with
    | pass x =>
      have e : (fr || (RV.pass x).isPass) = true := Bool.or_true fr
      rw [e] at hres
      exact hres
    | v x =>
      have e' : (fr || (RV.v x).isPass) = fr := Bool.or_false fr
      rw [e'] at hres
      exact hres
    | tup xs =>
      have e' : (fr || (RV.tup xs).isPass) = fr := Bool.or_false fr
      rw [e'] at hres
      exact hres
    | tupb xs o =>
      have e' : (fr || (RV.tupb xs o).isPass) = fr := Bool.or_false fr
      rw [e'] at hres
      exact hres
    | tupS k xs => cases hsh
    | own e sz rows =>
      have e' : (fr || (RV.own e sz rows).isPass) = fr := Bool.or_false fr
      rw [e'] at hres
      exact hres
  rcases he with rfl | rfl <;> exact ⟨hg'.defers, v, hv, v, rfl, hres', hg'.ext⟩

/-! ## A row that is lent -/
def argAVs : IV → AV
  | .one (.slice rows) => .sh rows
  | x => argAVp false x
def startEnvS (k : Nat) : Nat → List IV → List (Nat × AV)
  | _, [] => []
  | i, x :: xs => (i, if i = k then argAVs x else argAVp false x) :: startEnvS k (i + 1) xs
def startSh (k : Nat) (args : List IV) : AS := { env := startEnvS k 0 args, heap := [], next := 0 }
theorem startEnvS_get (k : Nat) : ∀ (args : List IV) (i t : Nat) (av : AV), (startEnvS k i args).lookup t = some av → ∃ j x, args[j]? = some x ∧ t = i + j ∧ av = (if t = k then argAVs x else argAVp false x)
  | [], i, t, av, h => by simp [startEnvS] at h
  | x :: xs, i, t, av, h => by
    simp only [startEnvS, List.lookup_cons] at h
    by_cases e : t = i
    · subst e
      simp at h
      exact ⟨0, x, rfl, rfl, h.symm⟩
    · have : (t == i) = false := by simpa using e
      rw [this] at h
      obtain ⟨j, y, h1, h2, h3⟩ := startEnvS_get k xs (i + 1) t av h
      exact ⟨j + 1, y, by simpa using h1, by omega, h3⟩

theorem acallsS_of_awp {P : Program} {f : FuncId} {fn : Func} {c : Code} (hf : P.funcs[f]? = some fn) (hb : fn.body = some c) (hcall : Callable P f) {args : List IV} {k : Nat} {xs : List IV} {fr : Bool} (own : Bool)
    (hnt : args.length ≤ fn.ntmps)
    (h : ∀ w0 S F, F = w0.heap.size → awp { P := P, w0 := w0, S := S, nt := fn.ntmps, F := F } c (Done P own fn.results.toList (.tup xs) fr) (startSh k args)) : ACalls P f args (.tupS k xs) fr := by
  refine ⟨hcall, fun w S F vs hF hFp hS hargs => ?_⟩
  have hFw : F = w.heap.size := hFp rfl
  replace hargs : AllSh (gI 0 S w false) (gSA S w) k args vs := hargs
  have hlen : args.length = vs.length := hargs.length
  refine calls_of_wp hf hb ?_
  have hg : Good { P := P, w0 := w, S := S, nt := fn.ntmps, F := F } (fun _ => .nilIface) (Below' 0) (startSh k args) { tmps := vs.toArray ++ Array.replicate (fn.ntmps - vs.toArray.size) Go.undef, defers := [] } w := by
    refine ⟨Below.refl _ _, hS, hF, rfl, by simp; omega, ⟨?_, ?_⟩, ?_, ?_, ?_⟩
    · intro t av h
      obtain ⟨j, x, h1, h2, rfl⟩ := startEnvS_get k args 0 t av h
      have hw : ∀ x : IV, (argAVp false x).wf (Below' 0) := by
        intro x
        cases x with
        | one x => trivial
        | agg xs =>
          intro y hy
          obtain ⟨z, _, rfl⟩ := List.mem_map.1 hy
          trivial
        | ro xs => trivial
      split
      · unfold argAVs
        split
        · trivial
        · exact hw _
      · exact hw _
    · intro id o h
      simp [startSh, AS.obj] at h
    · intro t av h
      obtain ⟨j, x, h1, h2, rfl⟩ := startEnvS_get k args 0 t av h
      obtain ⟨v, h3, h4, h4'⟩ := hargs.get j x h1
      refine ⟨v, ?_, ?_⟩
      · rw [h2, Nat.zero_add, Array.getElem?_append_left (by
          have := (List.getElem?_eq_some_iff.1 h3).1
          simpa using this)]
        simpa using h3
      · by_cases e : j = k
        · rw [if_pos (by omega)]
          have := h4 e
          unfold gSA at this
          split at this
          · exact this
          · exact this.elim
        · rw [if_neg (by omega)]
          replace h4 := h4' e
          have hM : ∀ (b off : Nat), okA 0 S w false b off → okA F (Mut { P := P, w0 := w, S := S, nt := fn.ntmps, F := F } (fun _ => .nilIface) (startSh k args)) w false b off := by
            rintro b off ⟨k1, k2, k0⟩
            refine ⟨k1, ?_, fun h => by cases h⟩
            rintro (k3 | ⟨id, o, k3, _⟩)
            · exact k2 k3
            · simp [startSh, AS.obj] at k3
          cases x with
          | one x => exact h4.mono hM (fun _ _ _ _ _ h => h)
          | agg xs =>
            obtain ⟨us, h5, h6⟩ := h4
            exact ⟨us, h5, All2.map_left (fun x => AC.c x false) (h6.mono fun _ _ q => q.mono hM (fun _ _ _ _ _ h => h))⟩
          | ro xs =>
            obtain ⟨b, off, k1, k2, k3, k4⟩ := h4
            refine ⟨b, off, k1, k2, ?_, k4.mono hM (fun _ _ _ _ _ h => h) (fun _ _ h => h)⟩
            rintro (k5 | ⟨id, o, k5, _⟩)
            · exact k3 k5
            · simp [startSh, AS.obj] at k5
    · intro id o h
      simp [startSh, AS.obj] at h
    · intro id id' o o' h1
      simp [startSh, AS.obj] at h1
  refine wp_mono (h w S F hFw (fun _ => .nilIface) _ w hg) ?_
  rintro e a' w' ⟨s', β', ⟨he, fr', hr, hf'⟩, hg'⟩
  obtain ⟨v, hv, hres⟩ := result_sound hg' hr hf'
  rcases he with rfl | rfl <;> exact ⟨hg'.defers, v, hv, v, rfl, hres, hg'.ext⟩

end Go.Proofs.YtcaahmielncmpaaGreat

namespace Go.Proofs.YtcaahmielncmpaaGreat
open Go Go.RowKit

theorem mem_of_lookup {α : Type} {l : List (Nat × α)} {t : Nat} {a : α} (h : l.lookup t = some a) : (t, a) ∈ l := by
  induction l with
  | nil => simp at h
  | cons p l ih =>
    obtain ⟨i, b⟩ := p
    simp only [List.lookup_cons] at h
    by_cases e : t = i
    · subst e
      simp at h
      subst h
      simp
    · have : (t == i) = false := by simpa using e
      rw [this] at h
      exact List.mem_cons_of_mem _ (ih h)

theorem resCs_map (s : AS) (fr : Bool) (xs : List C) : s.resCs (xs.map (AC.c · fr)) = some (xs, xs.all (fun x => fr || x.flat), []) := by
  induction xs with
  | nil => rfl
  | cons x xs ih => simp [AS.resCs, AS.resC, ih]

theorem callable_of {P : Program} {f : FuncId} {fn : Func} (h : P.funcs[f]? = some fn) (h1 : (fn.name == "runtime.NumGoroutine") = false) (h2 : fn.body.isNone = false) : Callable P f := by
  intro args w
  simp only [callFunc, Sem.run_bind, run_program, Result.andThen_ok, h, h1, h2, Bool.false_eq_true, if_false, Sem.run_pure]

end Go.Proofs.YtcaahmielncmpaaGreat

namespace Go.Proofs.YtcaahmielncmpaaGreat
open Go Go.RowKit

/-! ## Cuts: between two pieces of code all but what is still wanted is forgotten -/
def dd : List (Nat × Option Ob) → List (Nat × Option Ob)
  | [] => []
  | p :: l => p :: (dd l).filter (fun q => q.1 != p.1)

def AS.cut (s : AS) (live : List Nat) (var : List (Nat × AV)) (hv : List (Nat × Option Ob)) (n : Nat) : AS :=
  { env := var ++ live.filterMap (fun t => (s.get t).map (fun v => (t, v))), heap := dd (hv ++ s.heap), next := n }

theorem AC.wf_mono {K K' : Nat → Prop} (h : ∀ i, K i → K' i) {x : AC} (hx : x.wf K) : x.wf K' := by
  cases x <;> first | exact h _ hx | trivial
theorem A1.wf_mono {K K' : Nat → Prop} (h : ∀ i, K i → K' i) {x : A1} (hx : x.wf K) : x.wf K' := by
  cases x with
  | one x => exact AC.wf_mono h hx
  | agg xs => exact fun y hy => AC.wf_mono h (hx y hy)
theorem AV.wf_mono {K K' : Nat → Prop} (h : ∀ i, K i → K' i) {x : AV} (hx : x.wf K) : x.wf K' := by
  cases x with
  | v x => exact A1.wf_mono h hx
  | tup xs => exact fun y hy => A1.wf_mono h (hx y hy)
  | undef => trivial
  | old x => trivial
  | sh x => trivial
  | rp x => trivial
theorem Ob.wf_mono {K K' : Nat → Prop} (h : ∀ i, K i → K' i) {x : Ob} (hx : x.wf K) : x.wf K' := by
  cases x with
  | box cells => exact fun y hy => AC.wf_mono h (hx y hy)
  | row => trivial

section
variable {cx : Cx} {s : AS} {Q : Exit → AS → Prop}

end
end Go.Proofs.YtcaahmielncmpaaGreat

namespace Go.Proofs.YtcaahmielncmpaaGreat
open Go Go.RowKit
section
variable {cx : Cx} {s : AS} {Q : Exit → AS → Prop}

end
end Go.Proofs.YtcaahmielncmpaaGreat

namespace Go.Proofs.YtcaahmielncmpaaGreat
open Go Go.RowKit

/-! ## Objects under other numbers -/
def AC.ren (ρ : Nat → Nat) : AC → AC
  | .ptr id off => .ptr (ρ id) off
  | .el id sz i off => .el (ρ id) sz i off
  | .arr id => .arr (ρ id)
  | .fn f id => .fn f (ρ id)
  | .pre id n => .pre (ρ id) n
  | x => x
def A1.ren (ρ : Nat → Nat) : A1 → A1
  | .one x => .one (x.ren ρ)
  | .agg xs => .agg (xs.map (AC.ren ρ))
def AV.ren (ρ : Nat → Nat) : AV → AV
  | .v x => .v (x.ren ρ)
  | .tup xs => .tup (xs.map (A1.ren ρ))
  | .undef => .undef
  | .old x => .old x
  | .sh x => .sh x
  | .rp x => .rp x
def Ob.ren (ρ : Nat → Nat) : Ob → Ob
  | .box cells => .box (cells.map (AC.ren ρ))
  | .row e sz rows fr => .row e sz rows fr

structure ForgetR (ρ : Nat → Nat) (s s' : AS) : Prop where
  get : ∀ t av, s'.get t = some av → s.get t = some (av.ren ρ)
  obj : ∀ id o, s'.obj id = some o → s.obj (ρ id) = some (o.ren ρ)
  inj : ∀ i i' o o', s'.obj i = some o → s'.obj i' = some o' → ρ i = ρ i' → i = i'
  wf : WF (Below' s'.next) s'

section
variable {cx : Cx} {ρ : Nat → Nat} {β : Nat → Value} {s s' : AS} {w : World}

theorem ForgetR.mut (h : ForgetR ρ s s') {b : Nat} (hm : Mut cx (fun i => β (ρ i)) s' b) : Mut cx β s b := by
  rcases hm with hm | ⟨i, o, h1, h2⟩
  · exact .inl hm
  · exact .inr ⟨ρ i, _, h.obj i o h1, h2⟩

theorem ForgetR.okA (h : ForgetR ρ s s') {N : Nat} {fr : Bool} (b off : Nat) (ho : okA N (Mut cx β s) w fr b off) : okA N (Mut cx (fun i => β (ρ i)) s') w fr b off :=
  ⟨ho.1, fun hm => ho.2.1 (h.mut hm), ho.2.2⟩

theorem ForgetR.live (h : ForgetR ρ s s') {id : Nat} (hl : (s'.obj id).isSome = true) : (s.obj (ρ id)).isSome = true := by
  obtain ⟨o, ho⟩ := Option.isSome_iff_exists.1 hl
  rw [h.obj id o ho]; rfl

theorem ForgetR.gC (h : ForgetR ρ s s') {x : AC} {v : Value} (hg : gC cx β s w (x.ren ρ) v) : gC cx (fun i => β (ρ i)) s' w x v := by
  cases x with
  | c x fr => exact Rep.mono (fun b off ho => h.okA b off ho) (fun _ _ _ _ _ h => h) _ _ hg
  | nils => exact hg
  | ptr id off => exact ⟨hg.1, fun hl => hg.2 (h.live hl)⟩
  | el id sz i off => exact ⟨hg.1, fun hl => hg.2 (h.live hl)⟩
  | arr id => exact ⟨hg.1, fun hl => hg.2 (h.live hl)⟩
  | ro xs =>
    obtain ⟨b, off, h1, h2, h3, h4⟩ := hg
    exact ⟨b, off, h1, h2, fun hm => h3 (h.mut hm), RepRow.mono (fun b off ho => h.okA b off ho) (fun _ _ _ _ _ h => h) (fun _ _ h => h) _ _ h4⟩
  | nilp => exact hg
  | fn f id => exact ⟨hg.1, fun hl => hg.2 (h.live hl)⟩
  | pre id n => exact ⟨hg.1, fun hl => hg.2 (h.live hl)⟩
  | fb o => exact FB.keep (Nat.le_refl _) (fun _ _ _ => rfl) (fun _ _ _ hm => h.mut hm) hg
  | any => exact hg

theorem ForgetR.g1 (h : ForgetR ρ s s') {x : A1} {v : Value} (hg : g1 cx β s w (x.ren ρ) v) : g1 cx (fun i => β (ρ i)) s' w x v := by
  cases x with
  | one x => exact h.gC hg
  | agg xs =>
    obtain ⟨vs, h1, h2⟩ := hg
    exact ⟨vs, h1, (All2.of_map_left (AC.ren ρ) h2).mono fun _ _ hh => h.gC hh⟩

theorem ForgetR.gV (h : ForgetR ρ s s') {x : AV} {v : Value} (hg : gV cx β s w (x.ren ρ) v) : gV cx (fun i => β (ρ i)) s' w x v := by
  cases x with
  | v x => exact h.g1 hg
  | tup xs =>
    obtain ⟨vs, h1, h2⟩ := hg
    exact ⟨vs, h1, (All2.of_map_left (A1.ren ρ) h2).mono fun _ _ hh => h.g1 hh⟩
  | undef => exact hg
  | old x => exact hg
  | sh x => exact hg
  | rp x => exact hg

theorem ForgetR.gO (h : ForgetR ρ s s') {bv : Value} {o : Ob} (hg : gO cx β s w bv (o.ren ρ)) : gO cx (fun i => β (ρ i)) s' w bv o := by
  cases o with
  | box cells =>
    obtain ⟨b, T, vs, h1, h2, h3, h4⟩ := hg
    exact ⟨b, T, vs, h1, h2, h3, (All2.of_map_left (AC.ren ρ) h4).mono fun _ _ hh => h.gC hh⟩
  | row e sz rows fr =>
    obtain ⟨h1, h2, xs, h3, h4⟩ := hg
    exact ⟨h1, h2, xs, h3, h4.mono fun _ _ hh => Rep.mono (fun b off ho => h.okA b off ho) (fun _ _ _ _ _ h => h) _ _ hh⟩

theorem ForgetR.good {a : Act} {K : Nat → Prop} (h : ForgetR ρ s s') (hg : Good cx β K s a w) : Good cx (fun i => β (ρ i)) (Below' s'.next) s' a w := by
  refine ⟨hg.ext, hg.sb, hg.fb, hg.defers, hg.size, h.wf, ?_, ?_, ?_⟩
  · intro t av hh
    obtain ⟨v, h1, h2⟩ := hg.slots t _ (h.get t av hh)
    exact ⟨v, h1, h.gV h2⟩
  · intro id o hh
    exact h.gO (hg.objs _ _ (h.obj id o hh))
  · intro i i' o o' h1 h2 hne
    exact hg.inj _ _ _ _ (h.obj _ _ h1) (h.obj _ _ h2) fun e => hne (h.inj _ _ _ _ h1 h2 e)

end

section
variable {cx : Cx} {s : AS} {Q : Exit → AS → Prop}

end
end Go.Proofs.YtcaahmielncmpaaGreat

namespace Go.Proofs.YtcaahmielncmpaaGreat
open Go Go.RowKit
section
variable {cx : Cx} {s : AS} {Q : Exit → AS → Prop}

end
end Go.Proofs.YtcaahmielncmpaaGreat

namespace Go.Proofs.YtcaahmielncmpaaGreat
open Go Go.RowKit

/-! ## A new beginning, and a call that turns new data -/
section
variable {cx cx2 : Cx} {β : Nat → Value} {s : AS} {a : Act} {w : World}

/-! ### Spoil -/
/-- The call turns nothing but new data: of a struct of which all that lies behind it is new. -/
def SpoilOk (P : Program) (f : FuncId) (good : List C → Prop) : Prop :=
  Callable P f ∧ ∀ (w : World) (N : Nat) (xs : List C) (v : Value), N ≤ w.heap.size → good xs → gI N (fun _ => False) w true (.agg xs) v → Calls P f #[v] w fun e w' => ∃ u, e = .returned u ∧ Below N w w'

inductive Keep : AV → AV → Prop where
  | old (x : IV) : Keep (.old x) (.old x)
  | flat (x : C) (fr fr' : Bool) : x.flat = true → Keep (.v (.one (.c x fr))) (.v (.one (.c x fr')))
  | undef : Keep .undef .undef

theorem Keep.gV {x y : AV} (h : Keep x y) {β' : Nat → Value} {s' : AS} {w' : World} {v : Value} (hx : gV cx β s w x v) : Go.Proofs.YtcaahmielncmpaaGreat.gV cx β' s' w' y v := by
  cases h with
  | old x => exact hx
  | flat x fr fr' hf => exact Rep.flat hf hx
  | undef => exact hx
theorem Keep.wf {x y : AV} (h : Keep x y) {K : Nat → Prop} : y.wf K := by
  cases h <;> trivial

theorem lex_sound2 {ops : Array Oper} {Q : Exit → Act → World → Prop} {base : Nat} {orc : List (Nat × RV × Bool)} {rest : List Nat} : ∀ (l : List Oper) (i : Nat) (s : AS) (es : List Fx) (β : Nat → Value) (a : Act) (w : World),
    (∀ j, j < l.length → l[j]? = ops[i + j]?) → fxs cx.P ops cx.nt base orc l i s = some es → (∀ e ∈ es, e.Holds cx.P) → Good cx β (Below' (base + i)) s a w →
    (∀ β' a' w', Good cx β' (Below' (base + i + l.length)) (s.apps es) a' w' → wpOps cx.P ops Q rest a' w') → wpOps cx.P ops Q (List.range' i l.length ++ rest) a w
  | [], i, s, es, β, a, w, _, h, _, hg, hq => by
    simp only [fxs, Option.some.injEq] at h
    subst h
    exact hq β a w hg
  | o :: l, i, s, es, β, a, w, hl, h, hh, hg, hq => by
    have h0 : ops[i]? = some o := by simpa using (hl 0 (by simp)).symm
    simp only [fxs] at h
    split at h
    · rename_i e he
      split at h
      · rename_i es' hes
        cases h
        rw [List.length_cons, List.range'_succ, List.cons_append, wpOps_cons]
        refine fx_sound hg (nid := base + i) (by simp [Below']) h0 he (hh e (by simp)) fun v w' β' hg' => ?_
        refine lex_sound2 l (i + 1) (s.app e) es' β' _ w' (fun j hj => ?_) hes (fun e' h' => hh e' (by simp [h'])) ?_ ?_
        · have := hl (j + 1) (by simpa using hj)
          simpa [Nat.add_assoc, Nat.add_comm 1 j] using this
        · refine hg'.monoK fun k hk => ?_
          rcases hk with hk | rfl
          · simp only [Below'] at hk ⊢; omega
          · simp only [Below']; omega
        · intro β2 a2 w2 hg2
          refine hq β2 a2 w2 ?_
          rw [List.length_cons, show base + i + (l.length + 1) = base + (i + 1) + l.length by omega]
          exact hg2
      · cases h
    · cases h

theorem awp_spoil {f : FuncId} {good : List C → Prop} (hs : SpoilOk cx.P f good) (hFN : cx.F = cx.N) {id : Nat} {l : List Oper} {o : Oper} {es : List Fx} (orc : List (Nat × RV × Bool)) (h : fxs cx.P (l ++ [o]).toArray cx.nt s.next orc l 0 s = some es) (hh : ∀ e ∈ es, e.Holds cx.P)
    {x : Operand} {ts : Array TypeId} (hop : o.op = .call { callee := .value (.func f), args := #[x], argTypes := ts }) (hgd : o.guard = none) (hdst : dstOK cx.nt o.dst = true)
    {xs : List C} (hx : (s.apps es).ev x = some (.v (.agg (xs.map (.c · true))))) (hgood : good xs) {Q : Exit → AS → Prop} (s2 : AS) (hobj : ∀ id, s2.obj id = none)
    (henv : ∀ t av, s2.get t = some av → o.dst ≠ some t ∧ ∃ av0, (s.apps es).get t = some av0 ∧ Keep av0 av) (hq : Q .normal s2) : awp cx (.region id (l ++ [o]).toArray false) Q s := fun β a w hg => by
  show (Code.region id (l ++ [o]).toArray false).wp cx.P (conc cx Q) a w
  refine wp_region ?_
  have hr : List.range (l ++ [o]).toArray.size = List.range' 0 l.length ++ [l.length] := by
    simp [List.range_eq_range', List.range'_concat]
  rw [hr]
  refine lex_sound2 (cx := cx) (ops := (l ++ [o]).toArray) (Q := conc cx Q) (base := s.next) (orc := orc) (rest := [l.length]) l 0 s es β a w (fun j hj => by simp [List.getElem?_append_left hj]) h hh (by simpa using hg) fun β' a' w' hg' => ?_
  rw [wpOps_cons]
  unfold wpOp
  have hi : (l ++ [o]).toArray[l.length]? = some o := by simp
  simp only [hi]
  rw [if_pos (by unfold Region.wanted; rw [hgd])]
  left
  have hxv := (ev_sound hg' hx).1
  obtain ⟨us, h1, h2⟩ := hxv
  have hrun : (execOp a'.eval o).run cx.P w' = .ok (.enter f #[a'.eval x]) w' := by
    have hc := hs.1
    have e0 : Array.map a'.eval #[x] = #[a'.eval x] := by simp
    simp only [execOp, hop, resolve, e0]
    generalize a'.eval x = u
    simp only [Sem.run_bind, Act.eval, Deferred.ofValue, Sem.run_pure, Result.andThen_ok, invoke]
    exact hc _ _
  unfold Oper.wp
  rw [hrun]
  simp only [Oper.upon]
  refine (hs.2 w' cx.N xs _ hg'.ext.size hgood ⟨us, h1, ?_⟩).mono ?_
  · rw [← hFN]
    exact (All2.of_map_left (fun x => AC.c x true) h2).mono fun _ _ r => Rep.weaken (fun b h => h.elim) (fun h => h) r
  · rintro en w2 ⟨u, rfl, hb⟩
    show wpOps cx.P _ (conc cx Q) [] _ _
    refine ⟨s2, β', hq, ?_⟩
    refine ⟨hg'.ext.trans hb, hg'.sb, hg'.fb, ?_, ?_, ⟨fun t av hh => ?_, fun id o hh => ?_⟩, fun t av hh => ?_, fun id o hh => ?_, fun id id' o o' hh => ?_⟩
    · cases hd : o.dst <;> exact hg'.defers
    · cases hd : o.dst
      · exact hg'.size
      · simp [Act.put, hg'.size]
    · obtain ⟨_, av0, _, hk⟩ := henv t av hh
      exact hk.wf
    · rw [hobj] at hh; cases hh
    · obtain ⟨hne, av0, h0, hk⟩ := henv t av hh
      obtain ⟨v, q1, q2⟩ := hg'.slots t av0 h0
      refine ⟨v, ?_, hk.gV q2⟩
      cases hd : o.dst with
      | none => exact q1
      | some d =>
        have : d ≠ t := fun e => hne (by rw [hd, e])
        simp only [Act.put]
        rw [Array.getElem?_setIfInBounds_ne this]
        exact q1
    · rw [hobj] at hh; cases hh
    · rw [hobj] at hh; cases hh
end
end Go.Proofs.YtcaahmielncmpaaGreat

namespace Go.Proofs.YtcaahmielncmpaaGreat
open Go Go.RowKit

/-! ## A pointer to new memory becomes a variable of the call's own -/
/-- What holds no memory. -/
inductive ColdC : AC → Prop where
  | c (x : C) (f : Bool) : x.flat = true → ColdC (.c x f)
  | nils : ColdC .nils
  | nilp : ColdC .nilp
inductive ColdV : AV → Prop where
  | one (x : AC) : ColdC x → ColdV (.v (.one x))
  | agg (xs : List AC) : (∀ x ∈ xs, ColdC x) → ColdV (.v (.agg xs))
  | ptr (id off : Nat) : ColdV (.v (.one (.ptr id off)))
  | undef : ColdV .undef
  | old (x : IV) : ColdV (.old x)

section
variable {cx : Cx} {β β' : Nat → Value} {s s' : AS} {w : World}
theorem ColdC.gC {x : AC} (h : ColdC x) {v : Value} (hv : gC cx β s w x v) : Go.Proofs.YtcaahmielncmpaaGreat.gC cx β' s' w x v := by
  cases h with
  | c x f hf => exact Rep.flat hf hv
  | nils => exact hv
  | nilp => exact hv

structure Thaw (s s' : AS) (u : Nat) (k : Int) (e : Nat) (l : List Int) : Prop where
  next : s'.next = s.next + 2
  get : ∀ t av, s'.get t = some av → (t = u ∧ av = .v (.one (.ptr s.next 0))) ∨ (t ≠ u ∧ s.get t = some av ∧ ColdV av)
  obj : ∀ id o, s'.obj id = some o → (id = s.next ∧ o = .box [.c (.int k) true, .arr (s.next + 1)]) ∨ (id = s.next + 1 ∧ o = .row e 1 (l.map fun n => [C.int n]) true) ∨
    (s.obj id = some o ∧ ∃ cells, o = .box cells ∧ ∀ x ∈ cells, ColdC x)
  box : s'.obj s.next = some (.box [.c (.int k) true, .arr (s.next + 1)])
  row : s'.obj (s.next + 1) = some (.row e 1 (l.map fun n => [C.int n]) true)

theorem ints_flat (l : List Int) : (l.map fun n => [C.int n]).flatten = l.map C.int := by
  induction l with
  | nil => rfl
  | cons n l ih => simp [ih]

theorem thaw_good {a : Act} {u : Nat} {k : Int} {e : Nat} {l : List Int} (ht : Thaw s s' u k e l) (hg : Good cx β (Below' s.next) s a w) (hu : s.get u = some (.v (.one (.fb (some (k, e, l)))))) : ∃ β', Good cx β' (Below' s'.next) s' a w := by
  obtain ⟨v, hv1, b, T, q, hv2, hb1, hb2, hb3, hb4, hb5⟩ := hg.slots u _ hu
  have hN : cx.N ≤ w.heap.size := hg.ext.size
  have hblt : b < w.heap.size := (Array.getElem?_eq_some_iff.1 hb3).1
  have old : ∀ id o, s.obj id = some o → id < s.next := fun id o h => (hg.wf.heap id o h).1
  refine ⟨upd (upd β s.next (.pointer (some ⟨b, 0, none⟩))) (s.next + 1) q, ?_⟩
  have e0 : upd (upd β s.next (.pointer (some ⟨b, 0, none⟩))) (s.next + 1) q s.next = .pointer (some ⟨b, 0, none⟩) := by simp [upd]
  have e1 : upd (upd β s.next (.pointer (some ⟨b, 0, none⟩))) (s.next + 1) q (s.next + 1) = q := by simp [upd]
  have e2 : ∀ id, id < s.next → upd (upd β s.next (.pointer (some ⟨b, 0, none⟩))) (s.next + 1) q id = β id := fun id h => by
    have h1 : id ≠ s.next + 1 := by omega
    have h2 : id ≠ s.next := by omega
    simp [upd, h1, h2]
  generalize upd (upd β s.next (.pointer (some ⟨b, 0, none⟩))) (s.next + 1) q = β' at e0 e1 e2
  have hmut : ∀ id o, s.obj id = some o → ∀ c, blkOf (β id) = some c → Mut cx β s c := fun id o h c hc => .inr ⟨id, o, h, hc⟩
  have hq1 : q.oneCell' = true := by
    rcases hb4.2 with ⟨hn, _⟩ | ⟨g, cap, cur, hqv, _⟩
    · rw [hn]; rfl
    · rw [hqv]; rfl
  have hlive : ∀ id, id < s.next → (s'.obj id).isSome = true → (s.obj id).isSome = true := fun id hid h => by
    obtain ⟨o, ho⟩ := Option.isSome_iff_exists.1 h
    rcases ht.obj id o ho with ⟨h1, _⟩ | ⟨h1, _⟩ | ⟨h1, _⟩
    · omega
    · omega
    · rw [h1]; rfl
  refine ⟨hg.ext, hg.sb, hg.fb, hg.defers, hg.size, ⟨fun t av h => ?_, fun id o h => ?_⟩, fun t av h => ?_, fun id o h => ?_, fun id id' o o' h h' hne c hc hc' => ?_⟩
  · rcases ht.get t av h with ⟨_, rfl⟩ | ⟨_, h1, _⟩
    · show s.next < s'.next
      rw [ht.next]; omega
    · exact (hg.wf.env t av h1).mono fun i hi => by
        simp only [Below'] at hi ⊢
        rw [ht.next]; omega
  · rcases ht.obj id o h with ⟨rfl, rfl⟩ | ⟨rfl, rfl⟩ | ⟨h1, cells, rfl, h2⟩
    · refine ⟨by simp only [Below']; rw [ht.next]; omega, fun x hx => ?_⟩
      simp only [List.mem_cons, List.not_mem_nil, or_false] at hx
      rcases hx with rfl | rfl
      · trivial
      · show s.next + 1 < s'.next
        rw [ht.next]; omega
    · exact ⟨by simp only [Below']; rw [ht.next]; omega, trivial⟩
    · obtain ⟨i1, i2⟩ := hg.wf.heap id _ h1
      exact ⟨by simp only [Below'] at i1 ⊢; rw [ht.next]; omega, i2.mono fun i hi => by
        simp only [Below'] at hi ⊢
        rw [ht.next]; omega⟩
  · rcases ht.get t av h with ⟨rfl, rfl⟩ | ⟨_, h1, h2⟩
    · exact ⟨v, hv1, by rw [hv2]; rfl, fun _ => ⟨b, by rw [e0]; rfl, hv2⟩⟩
    · obtain ⟨v', h3, h4⟩ := hg.slots t av h1
      refine ⟨v', h3, ?_⟩
      cases h2 with
      | one x hx => exact hx.gC h4
      | agg xs hx =>
        obtain ⟨vs, h5, h6⟩ := h4
        exact ⟨vs, h5, h6.mono' fun a b ha => (hx a ha).gC⟩
      | ptr id off =>
        have hid : id < s.next := hg.wf.env t _ h1
        exact ⟨h4.1, fun hl => by
          rw [e2 id hid]
          exact h4.2 (hlive id hid hl)⟩
      | undef => exact h4
      | old x => exact h4
  · rcases ht.obj id o h with ⟨rfl, rfl⟩ | ⟨rfl, rfl⟩ | ⟨h1, cells, rfl, h2⟩
    · refine ⟨b, T, _, e0, hb1, hb3, ?_⟩
      refine .cons ?_ (.cons ⟨hq1, fun _ => e1.symm⟩ .nil)
      simp only [gC, Rep]
    · refine ⟨by omega, fun r hr => ?_, l.map (Value.int .i64), ?_, ?_⟩
      · obtain ⟨n, _, rfl⟩ := List.mem_map.1 hr
        rfl
      · rw [e1]; simpa using hb4
      · rw [ints_flat]
        clear hb4 hu ht h
        induction l with
        | nil => exact .nil
        | cons n l ih => exact .cons (by simp only [Rep]) ih
    · rw [e2 id (old id _ h1)]
      obtain ⟨b', T', vs, i1, i2, i3, i4⟩ := hg.objs id _ h1
      exact ⟨b', T', vs, i1, i2, i3, i4.mono' fun a v ha => (h2 a ha).gC⟩
  · have key : ∀ id o c, s'.obj id = some o → blkOf (β' id) = some c → (id = s.next ∧ c = b) ∨ (id = s.next + 1 ∧ blkOf q = some c) ∨ (id < s.next ∧ blkOf (β id) = some c ∧ ∃ o, s.obj id = some o) := by
      intro id o c h hc
      rcases ht.obj id o h with ⟨rfl, rfl⟩ | ⟨rfl, rfl⟩ | ⟨h1, _⟩
      · rw [e0] at hc
        simp [blkOf] at hc
        exact .inl ⟨rfl, hc.symm⟩
      · rw [e1] at hc
        exact .inr (.inl ⟨rfl, hc⟩)
      · have := old id _ h1
        rw [e2 id this] at hc
        exact .inr (.inr ⟨this, hc, _, h1⟩)
    rcases key id o c h hc with ⟨i1, i2⟩ | ⟨i1, i2⟩ | ⟨i1, i2, _, i3⟩ <;> rcases key id' o' c h' hc' with ⟨j1, j2⟩ | ⟨j1, j2⟩ | ⟨j1, j2, _, j3⟩
    · omega
    · exact (hb5 c j2).2 i2
    · exact hb2 (i2 ▸ hmut _ _ j3 c j2)
    · exact (hb5 c i2).2 j2
    · omega
    · exact (hb5 c i2).1 (hmut _ _ j3 c j2)
    · exact hb2 (j2 ▸ hmut _ _ i3 c i2)
    · exact (hb5 c j2).1 (hmut _ _ i3 c i2)
    · exact hg.inj id id' _ _ i3 j3 hne c i2 j2
end
theorem awp_thaw {cx : Cx} {s s' : AS} {u : Nat} {k : Int} {e : Nat} {l : List Int} (ht : Thaw s s' u k e l) (hu : s.get u = some (.v (.one (.fb (some (k, e, l)))))) {c : Code} {Q : Exit → AS → Prop} (h : awp cx c Q s') : awp cx c Q s := fun β a w hg => by
  obtain ⟨β', hg'⟩ := thaw_good ht hg hu
  exact h β' a w hg'
end Go.Proofs.YtcaahmielncmpaaGreat

namespace Go.Proofs.YtcaahmielncmpaaGreat
open Go Go.RowKit

/-! ## Trees as data -/
inductive Dv where
  | mk (r i : Int) (ks : List Dv)

mutual
def Dv.cells : Dv → List C
  | .mk r i ks => [.int r, .int i, .slice (Dv.rows ks)]
def Dv.rows : List Dv → List (List C)
  | [] => []
  | k :: ks => k.cells :: Dv.rows ks
end

inductive Tm where
  | mk (kind i j n : Int) (ks : List Tm)

mutual
def Tm.cells : Tm → List C
  | .mk kind i j n ks => [.int kind, .int i, .int j, .int n, .slice (Tm.rows ks)]
def Tm.rows : List Tm → List (List C)
  | [] => []
  | k :: ks => k.cells :: Tm.rows ks
end

def Dv.kids : Dv → List Dv
  | .mk _ _ ks => ks
def Tm.kids : Tm → List Tm
  | .mk _ _ _ _ ks => ks

mutual
def Dv.Ok : Dv → Prop
  | .mk r i ks => InI64 r ∧ InI64 i ∧ Dv.Oks ks
def Dv.Oks : List Dv → Prop
  | [] => True
  | k :: ks => k.Ok ∧ Dv.Oks ks
end
mutual
def Tm.Ok : Tm → Prop
  | .mk kind i j n ks => InI64 kind ∧ InI64 i ∧ InI64 j ∧ InI64 n ∧ Tm.Oks ks
def Tm.Oks : List Tm → Prop
  | [] => True
  | k :: ks => k.Ok ∧ Tm.Oks ks
end

theorem Dv.rows_eq (ks : List Dv) : Dv.rows ks = ks.map Dv.cells := by
  induction ks with
  | nil => simp [Dv.rows]
  | cons k ks ih => simp [Dv.rows, ih]
theorem Dv.cells_length (d : Dv) : d.cells.length = 3 := by cases d; rfl
theorem Tm.rows_eq (ks : List Tm) : Tm.rows ks = ks.map Tm.cells := by
  induction ks with
  | nil => simp [Tm.rows]
  | cons k ks ih => simp [Tm.rows, ih]
theorem Tm.cells_length (d : Tm) : d.cells.length = 5 := by cases d; rfl
theorem Dv.Oks_iff (ks : List Dv) : Dv.Oks ks ↔ ∀ k ∈ ks, k.Ok := by
  induction ks with
  | nil => simp [Dv.Oks]
  | cons k ks ih => simp [Dv.Oks, ih]
theorem Tm.Oks_iff (ks : List Tm) : Tm.Oks ks ↔ ∀ k ∈ ks, k.Ok := by
  induction ks with
  | nil => simp [Tm.Oks]
  | cons k ks ih => simp [Tm.Oks, ih]

/-! ## Readings -/
def okR (w : World) (b _off : Nat) : Prop := b < w.heap.size

section
variable {H : Type} {enc : TypeId × Value → H} {P : Program} {w : World} {base : Nat} {sp : Nat → Bool} {hd : Bool}

theorem wf_i64 {n : Int} (h : (Lit.int .i64 n).wf = true) : InI64 n := by
  simp only [Lit.wf, Bool.and_eq_true, decide_eq_true_eq] at h
  unfold InI64
  simp [IntKind.min, IntKind.max, IntKind.bits, IntKind.signed] at h
  omega

theorem cell_lt {b o : Nat} {s : Option Nat} {v : Value} (h : w.cell? ⟨b, o, s⟩ = some v) : b < w.heap.size := by
  rcases Nat.lt_or_ge b w.heap.size with h1 | h1
  · exact h1
  · simp [World.cell?, Array.getElem?_eq_none h1] at h

/-- A slice whose rows read, each by itself. -/
theorem read_rows {α : Type} (f : α → List C) (g : α → Prop) {t e sz : Nat} (ht : P.underlying t = some (.slice e)) (hsz : P.cellsOf e = sz) (hpos : 0 < sz) (hl : ∀ a, (f a).length = sz) {fuel : Nat}
    (ih : ∀ cs x, DataW.trod enc P w base sp hd fuel e cs = some x → ∃ a, All2 (Rep (okR w) w) (f a) cs ∧ g a) {cs : List Value} {x : DataW H × List MemPlace}
    (h : DataW.trod enc P w base sp hd (fuel + 1) t cs = some x) : ∃ (zs : List α) (v : Value), cs = [v] ∧ Rep (okR w) w (.slice (zs.map f)) v ∧ ∀ a ∈ zs, g a := by
  rcases DataW.trod_slice ht h with ⟨rfl, _⟩ | ⟨a, len, cap, elems, rest, n, hn, rfl, _, _, hlc, hcap, hlen, hel, _, _⟩
  · exact ⟨[], _, rfl, by simp only [List.map_nil, Rep]; exact ⟨none, 0, rfl, Nat.le_refl _, .inl (by simp)⟩, by simp⟩
  have hn' : n = fuel := by omega
  subst hn'
  have hch : ∀ i, i < len → ∃ y : α × List Value, w.cells? base (a.add (i * sz)) sz = some y.2 ∧ All2 (Rep (okR w) w) (f y.1) y.2 ∧ g y.1 := by
    intro i hi
    have h1 := hel i hi
    rw [List.getElem?_eq_getElem (by omega), hsz] at h1
    obtain ⟨cs', h2, h3⟩ := Option.bind_eq_some_iff.1 h1
    obtain ⟨y, h4, h5⟩ := ih cs' _ h3
    exact ⟨⟨y, cs'⟩, h2, h4, h5⟩
  have hex : ∀ m, m ≤ len → ∃ ys : List (α × List Value), ys.length = m ∧ ∀ i y, ys[i]? = some y → w.cells? base (a.add (i * sz)) sz = some y.2 ∧ All2 (Rep (okR w) w) (f y.1) y.2 ∧ g y.1 := by
    intro m
    induction m with
    | zero => intro _; exact ⟨[], rfl, by simp⟩
    | succ m ihm =>
      intro hm
      obtain ⟨ys, h1, h2⟩ := ihm (by omega)
      obtain ⟨y, hy⟩ := hch m (by omega)
      refine ⟨ys ++ [y], by simp [h1], fun i z hz => ?_⟩
      rcases Nat.lt_or_ge i m with hi | hi
      · rw [List.getElem?_append_left (by omega)] at hz
        exact h2 i z hz
      · rw [List.getElem?_append_right (by omega)] at hz
        have : i = m := by
          rcases Nat.lt_or_ge 0 (i - ys.length) with h | h
          · simp [List.getElem?_eq_none (show [y].length ≤ i - ys.length by simp; omega)] at hz
          · omega
        subst this
        simp [h1] at hz
        subst hz
        exact hy
  obtain ⟨ys, h1, h2⟩ := hex len (Nat.le_refl _)
  refine ⟨ys.map (·.1), _, rfl, ?_, fun z hz => ?_⟩
  · simp only [Rep]
    refine ⟨some a, cap, by simp [h1], by simp [h1]; omega, ?_⟩
    by_cases hne : ys = []
    · left; simp [hne]
    right
    obtain ⟨b, off, s⟩ := a
    -- the place is plain, and its block lies in the heap
    have hex0 : ∃ v0, w.cell? ⟨b, off, s⟩ = some v0 := by
      obtain ⟨y, hy⟩ : ∃ y, ys[0]? = some y := ⟨ys[0]'(by cases ys; exact absurd rfl hne; simp), by simp⟩
      obtain ⟨_, hlen', hc⟩ := World.cells?_some (h2 0 y hy).1
      have := hc 0 hpos
      rw [List.getElem?_eq_getElem (by omega)] at this
      exact ⟨_, by simpa [Addr.add] using this⟩
    obtain ⟨v0, hv0⟩ := hex0
    have hs : s = none := World.cell?_spot hv0
    subst hs
    refine ⟨b, off, sz, rfl, cell_lt hv0, RepRows.mk fun j r hj => ?_⟩
    simp only [List.getElem?_map, Option.map_map, Option.map_eq_some_iff] at hj
    obtain ⟨y, hy, rfl⟩ := hj
    obtain ⟨q1, q2, _⟩ := h2 j y hy
    obtain ⟨_, hlen', hc⟩ := World.cells?_some q1
    refine ⟨hl _, RepRow.mk fun i c hi => ?_⟩
    obtain ⟨u, hu1, hu2⟩ := q2.get i c hi
    refine ⟨u, ?_, hu2⟩
    have hi' : i < sz := by
      have := (List.getElem?_eq_some_iff.1 hi).1
      rw [← hl y.1]; exact this
    have := hc i hi'
    rw [hu1] at this
    have e : (Addr.add (Addr.add ⟨b, off, none⟩ (j * sz)) i) = ⟨b, off + j * sz + i, none⟩ := by
      unfold Addr.add
      by_cases h1 : j * sz = 0 <;> by_cases h2 : i = 0 <;> simp [h1, h2]
    rw [e] at this
    exact this
  · obtain ⟨y, hy, rfl⟩ := List.mem_map.1 hz
    obtain ⟨i, hi⟩ := List.mem_iff_getElem?.1 hy
    exact (h2 i y hi).2.2

theorem read_int {t fuel : Nat} (ht : P.underlying t = some (.int .i64)) {cs : List Value} {x : DataW H × List MemPlace} (h : DataW.trod enc P w base sp hd fuel t cs = some x) :
    ∃ n, cs = [.int .i64 n] ∧ InI64 n := by
  obtain ⟨n, h1, _, h2⟩ := DataW.trod_int ht h
  exact ⟨n, h1, wf_i64 h2⟩

end
end Go.Proofs.YtcaahmielncmpaaGreat
