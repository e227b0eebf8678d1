/-
  What the functions on derivations compute.
-/
import Derived.Test.YteaglcbnkephgaaDerA
set_option linter.unusedSimpArgs false
set_option linter.unusedVariables false
namespace Go.Proofs.Yteaglcbnkephgaa
open Go Go.RowKit

mutual
def Dv.nodes : Dv → Nat
  | .mk _ _ ks => 1 + Dv.nodesL ks
def Dv.nodesL : List Dv → Nat
  | [] => 0
  | k :: ks => k.nodes + Dv.nodesL ks
end
mutual
def Dv.deep : Dv → Nat
  | .mk _ _ ks => 1 + Dv.deepL ks
def Dv.deepL : List Dv → Nat
  | [] => 0
  | k :: ks => max k.deep (Dv.deepL ks)
end
def dhead (r i : Int) (n : Nat) : Bool := decide ((n : Int) = dkids r) && decide (0 ≤ i) && decide (i ≤ 1000000) && (decide (i = 0) || decide (r = 1) || decide (r = 2))
mutual
def Dv.right : Dv → Bool
  | .mk r i ks => dhead r i ks.length && Dv.rightL ks
def Dv.rightL : List Dv → Bool
  | [] => true
  | k :: ks => k.right && Dv.rightL ks
end
mutual
def Dv.same : Dv → Dv → Bool
  | .mk r i ks, .mk r' i' ks' => decide (r = r') && decide (i = i') && Dv.sames ks ks'
def Dv.sames : List Dv → List Dv → Bool
  | [], [] => true
  | k :: ks, k' :: ks' => k.same k' && Dv.sames ks ks'
  | _, _ => false
end
mutual
def Dv.weigh : Dv → Int → Int → Int
  | .mk _ _ ks, most, deep => if deep < 0 then most + 1 else Dv.weighL ks most deep 1
def Dv.weighL : List Dv → Int → Int → Int → Int
  | [], _, _, n => n
  | k :: ks, most, deep, n => if n ≤ most then Dv.weighL ks most deep (n + k.weigh (most - n) (deep - 1)) else n
end
def Dv.node : Dv → List Int → Option Dv
  | d, [] => some d
  | d, p :: ps => if 0 ≤ p then match d.kids[p.toNat]? with
      | some k => k.node ps
      | none => none
    else none
def ints (l : List Int) : List (List C) := l.map fun n => [.int n]
theorem ints_length (l : List Int) : (ints l).length = l.length := by simp [ints]
theorem ints_get {l : List Int} {k : Nat} (h : k < l.length) : (ints l)[k]?.getD [] = [C.int l[k]] := by simp [ints, h]

theorem Dv.sames_length : ∀ {ks ks' : List Dv}, Dv.sames ks ks' = true → ks.length = ks'.length
  | [], [], _ => rfl
  | k :: ks, k' :: ks', h => by
    simp only [Dv.sames, Bool.and_eq_true] at h
    simp [Dv.sames_length h.2]
  | [], _ :: _, h => by simp [Dv.sames] at h
  | _ :: _, [], h => by simp [Dv.sames] at h
theorem Dv.same_ne {r i r' i' : Int} {ks ks' : List Dv} (h : (¬r = r' ∨ ¬i = i') ∨ ¬ks.length = ks'.length) : (Dv.mk r i ks).same (Dv.mk r' i' ks') = false := by
  simp only [Dv.same]
  by_cases h1 : r = r' <;> by_cases h2 : i = i' <;> simp [h1, h2]
  have : ¬ks.length = ks'.length := by rcases h with (h | h) | h <;> first | exact h | exact absurd h1 h | exact absurd h2 h
  cases hs : Dv.sames ks ks' with
  | true => exact absurd (Dv.sames_length hs) this
  | false => rfl
theorem Dv.nodes_pos (d : Dv) : 0 < d.nodes := by cases d; simp [Dv.nodes]; omega
theorem Dv.nodesL_drop {ks : List Dv} {k : Nat} (h : k < ks.length) : Dv.nodesL (ks.drop k) = ks[k].nodes + Dv.nodesL (ks.drop (k + 1)) := by rw [List.drop_eq_getElem_cons h]; rfl
theorem Dv.deepL_drop {ks : List Dv} {k : Nat} (h : k < ks.length) : Dv.deepL (ks.drop k) = max ks[k].deep (Dv.deepL (ks.drop (k + 1))) := by rw [List.drop_eq_getElem_cons h]; rfl
theorem Dv.rightL_drop {ks : List Dv} {k : Nat} (h : k < ks.length) : Dv.rightL (ks.drop k) = (ks[k].right && Dv.rightL (ks.drop (k + 1))) := by rw [List.drop_eq_getElem_cons h]; rfl
theorem Dv.sames_drop {ks ks' : List Dv} {k : Nat} (h : k < ks.length) (h' : k < ks'.length) : Dv.sames (ks.drop k) (ks'.drop k) = (ks[k].same ks'[k] && Dv.sames (ks.drop (k + 1)) (ks'.drop (k + 1))) := by
  rw [List.drop_eq_getElem_cons h, List.drop_eq_getElem_cons h']; rfl
theorem Dv.weighL_drop {ks : List Dv} {k : Nat} (h : k < ks.length) (most deep n : Int) : Dv.weighL (ks.drop k) most deep n = if n ≤ most then Dv.weighL (ks.drop (k + 1)) most deep (n + ks[k].weigh (most - n) (deep - 1)) else n := by
  rw [List.drop_eq_getElem_cons h]; rfl
theorem Dv.length_le (ks : List Dv) : ks.length ≤ Dv.nodesL ks := by
  induction ks with
  | nil => simp
  | cons a ks ih => have := a.nodes_pos; simp [Dv.nodesL]; omega
mutual
theorem Dv.deep_le : (d : Dv) → d.deep ≤ d.nodes
  | .mk r i ks => by simp only [Dv.deep, Dv.nodes]; have := Dv.deepL_le ks; omega
theorem Dv.deepL_le : (ks : List Dv) → Dv.deepL ks ≤ Dv.nodesL ks
  | [] => by simp [Dv.deepL]
  | k :: ks => by simp only [Dv.deepL, Dv.nodesL]; have := Dv.deep_le k; have := Dv.deepL_le ks; omega
end
theorem Dv.nodes_mem {ks : List Dv} {k : Dv} (h : k ∈ ks) : k.nodes ≤ Dv.nodesL ks := by
  induction ks with
  | nil => cases h
  | cons a ks ih =>
    simp only [Dv.nodesL]
    rcases List.mem_cons.1 h with rfl | h
    · omega
    · have := ih h; omega

theorem call39 : Callable Try.prog 39 := callable_of Try.func39 (by kernel_rfl) (by kernel_rfl)
theorem res39 : Try.f39.results.toList = [.tmp 2] := rfl
set_option maxHeartbeats 4000000 in
set_option maxRecDepth 100000 in
theorem nodes_c_step (r i : Int) (ks : List Dv) (hb : (Dv.mk r i ks).nodes < 4611686018427387904) (ih : ∀ k ∈ ks, k.nodes < 4611686018427387904 → ACalls Try.prog 39 [.agg k.cells] (.v (.one (.int k.nodes))) true) : ACalls Try.prog 39 [.agg (Dv.mk r i ks).cells] (RV.v (.one (.int (Dv.mk r i ks).nodes))) true := by
  simp only [Dv.nodes] at hb
  refine acalls_of_awp Try.func39 rfl call39 false (by rw [Try.ntmps39]; simp) fun w0 S => ?_
  rw [Try.ntmps39]
  generalize hQ : Done Try.prog false Try.f39.results.toList (RV.v (.one (.int (Dv.mk r i ks).nodes))) true = Q
  simp only [start, startEnv, argAV, Nat.zero_add, Nat.reduceAdd, Dv.cells, List.map_cons, List.map_nil]
  refine awp_seq_k fun K0 hK0 => ?_
  refine awp_region' ([]) ?_
  simp [fxs, fxOf, dstOK, guardA, runOp, calleeOf, effOp, effBin, AS.ev, AS.get, AS.obj, AS.app, AS.ups, AS.put, AS.behind, AS.rowsOf, AS.resC, AS.resCs, resCs_map, AS.resIV, AS.resArgs, AS.evParts, fillA, AS.fillRows, effCall, ivAV, ivAVs, avOf, acOf, A1.cells, C.flat, List.lookup, Fx.Holds, AS.behindRegion, AS.apps, thenA, inBlockA, InI64, splice, tab3, tab4, tab9, tab22, tab24, tab25, tab69]
  repeat (refine ⟨by first | assumption | omega, ?_⟩)
  apply hK0
  try clear hK0 K0
  refine awp_seq_k fun K1 hK1 => ?_
  refine awp_region' ([]) ?_
  simp [fxs, fxOf, dstOK, guardA, runOp, calleeOf, effOp, effBin, AS.ev, AS.get, AS.obj, AS.app, AS.ups, AS.put, AS.behind, AS.rowsOf, AS.resC, AS.resCs, resCs_map, AS.resIV, AS.resArgs, AS.evParts, fillA, AS.fillRows, effCall, ivAV, ivAVs, avOf, acOf, A1.cells, C.flat, List.lookup, Fx.Holds, AS.behindRegion, AS.apps, thenA, inBlockA, InI64, splice, tab3, tab4, tab9, tab22, tab24, tab25, tab69]
  repeat (refine ⟨by first | assumption | omega, ?_⟩)
  apply hK1
  try clear hK1 K1
  refine awp_seq_k fun K2 hK2 => ?_
  refine awp_seq_k fun K3 hK3 => ?_
  refine awp_region' ([]) ?_
  simp [fxs, fxOf, dstOK, guardA, runOp, calleeOf, effOp, effBin, AS.ev, AS.get, AS.obj, AS.app, AS.ups, AS.put, AS.behind, AS.rowsOf, AS.resC, AS.resCs, resCs_map, AS.resIV, AS.resArgs, AS.evParts, fillA, AS.fillRows, effCall, ivAV, ivAVs, avOf, acOf, A1.cells, C.flat, List.lookup, Fx.Holds, AS.behindRegion, AS.apps, thenA, inBlockA, InI64, splice, tab3, tab4, tab9, tab22, tab24, tab25, tab69, Dv.rows_length]
  repeat (refine ⟨by first | assumption | omega, ?_⟩)
  apply hK3
  try clear hK3 K3
  refine awp_block ?_
  refine awp_round (A := Int) (ks.length) (fun k a => 0 ≤ a ∧ a + (Dv.nodesL (ks.drop k) : Int) = 1 + Dv.nodesL ks) [7, 8] (fun k a => [(3, iv a), (9, iv k)]) (fun k a => []) (1) ?_ ?_ ?_ ?_
  · simp
  · refine ⟨?_, ?_, ?_⟩ <;> simp [AS.get, AS.obj, List.lookup, dd, List.filter_cons, List.filter_nil, tab3, tab4, tab9, tab22, tab24, tab25, tab69]
  · intro k a; simp [wfs, AV.wf, A1.wf, AC.wf, Ob.wf, Below', iv, bv, tab3, tab4, tab9, tab22, tab24, tab25, tab69]
  intro k a KL0 hk hI hKL0 sl hsl
  simp [AS.cut, AS.get, AS.obj, List.lookup, dd, List.filter_cons, List.filter_nil, tab3, tab4, tab9, tab22, tab24, tab25, tab69] at hsl
  subst hsl
  refine awp_seq_k fun K4 hK4 => ?_
  refine awp_region' ([]) ?_
  simp [fxs, fxOf, dstOK, guardA, runOp, calleeOf, effOp, effBin, AS.ev, AS.get, AS.obj, AS.app, AS.ups, AS.put, AS.behind, AS.rowsOf, AS.resC, AS.resCs, resCs_map, AS.resIV, AS.resArgs, AS.evParts, fillA, AS.fillRows, effCall, ivAV, ivAVs, avOf, acOf, A1.cells, C.flat, List.lookup, Fx.Holds, AS.behindRegion, AS.apps, thenA, inBlockA, InI64, splice, tab3, tab4, tab9, tab22, tab24, tab25, tab69]
  repeat (refine ⟨by first | assumption | omega, ?_⟩)
  apply hK4
  try clear hK4 K4
  refine awp_seq_k fun K5 hK5 => ?_
  refine awp_cond rfl (fun hb_t10 => ?_) (fun hb_t10 => ?_)
  · try simp at hb_t10
    have hlen := Dv.length_le ks
    have hrow := Dv.rows_get hb_t10
    have hcl := Dv.cells_length ks[k]
    have hmem : ks[k] ∈ ks := List.getElem_mem _
    have hd := Dv.nodesL_drop hb_t10
    have hm := Dv.nodes_mem hmem
    have hc := ih ks[k] hmem (by omega)
    refine awp_skip ?_
    try simp only [thenA, inBlockA]
    apply hK5
    try clear hK5 K5
    refine awp_seq_k fun K6 hK6 => ?_
    refine awp_block ?_
    refine awp_seq_k fun K7 hK7 => ?_
    refine awp_region' ([]) ?_
    simp [fxs, fxOf, dstOK, guardA, runOp, calleeOf, effOp, effBin, AS.ev, AS.get, AS.obj, AS.app, AS.ups, AS.put, AS.behind, AS.rowsOf, AS.resC, AS.resCs, resCs_map, AS.resIV, AS.resArgs, AS.evParts, fillA, AS.fillRows, effCall, ivAV, ivAVs, avOf, acOf, A1.cells, C.flat, List.lookup, Fx.Holds, AS.behindRegion, AS.apps, thenA, inBlockA, InI64, splice, tab3, tab4, tab9, tab22, tab24, tab25, tab69, Dv.rows_length, hrow, hcl]
    repeat (refine ⟨by first | assumption | omega, ?_⟩)
    apply hK7
    try clear hK7 K7
    refine awp_region' ([(2, .v (.one (.int ks[k].nodes)), true)]) ?_
    simp [fxs, fxOf, dstOK, guardA, runOp, calleeOf, effOp, effBin, AS.ev, AS.get, AS.obj, AS.app, AS.ups, AS.put, AS.behind, AS.rowsOf, AS.resC, AS.resCs, resCs_map, AS.resIV, AS.resArgs, AS.evParts, fillA, AS.fillRows, effCall, ivAV, ivAVs, avOf, acOf, A1.cells, C.flat, List.lookup, Fx.Holds, AS.behindRegion, AS.apps, thenA, inBlockA, InI64, splice, tab3, tab4, tab9, tab22, tab24, tab25, tab69, hcl, hc]
    repeat (refine ⟨by first | assumption | omega, ?_⟩)
    apply hK6
    try clear hK6 K6
    refine awp_region' ([]) ?_
    simp [fxs, fxOf, dstOK, guardA, runOp, calleeOf, effOp, effBin, AS.ev, AS.get, AS.obj, AS.app, AS.ups, AS.put, AS.behind, AS.rowsOf, AS.resC, AS.resCs, resCs_map, AS.resIV, AS.resArgs, AS.evParts, fillA, AS.fillRows, effCall, ivAV, ivAVs, avOf, acOf, A1.cells, C.flat, List.lookup, Fx.Holds, AS.behindRegion, AS.apps, thenA, inBlockA, InI64, splice, tab3, tab4, tab9, tab22, tab24, tab25, tab69]
    repeat (refine ⟨by first | assumption | omega, ?_⟩)
    refine hKL0 _ (a + ks[k].nodes) (by omega) ?_ ?_
    · first | assumption | omega
    · refine ⟨?_, ?_, ?_⟩ <;> simp [AS.get, AS.obj, List.lookup, dd, List.filter_cons, List.filter_nil, tab3, tab4, tab9, tab22, tab24, tab25, tab69]
  · try simp at hb_t10
    have hk2 : k = ks.length := by omega
    subst hk2
    refine awp_exit ?_
    try simp only [thenA, inBlockA, if_true, if_false, reduceIte, Nat.reduceEqDiff]
    apply hK2
    try clear hK2 K2
    refine awp_seq_k fun K8 hK8 => ?_
    refine awp_region' ([]) ?_
    simp [fxs, fxOf, dstOK, guardA, runOp, calleeOf, effOp, effBin, AS.ev, AS.get, AS.obj, AS.app, AS.ups, AS.put, AS.behind, AS.rowsOf, AS.resC, AS.resCs, resCs_map, AS.resIV, AS.resArgs, AS.evParts, fillA, AS.fillRows, effCall, ivAV, ivAVs, avOf, acOf, A1.cells, C.flat, List.lookup, Fx.Holds, AS.behindRegion, AS.apps, thenA, inBlockA, InI64, splice, tab3, tab4, tab9, tab22, tab24, tab25, tab69]
    repeat (refine ⟨by first | assumption | omega, ?_⟩)
    apply hK8
    try clear hK8 K8
    refine awp_ret ?_
    try simp only [thenA, inBlockA]
    rw [← hQ]
    refine ⟨by first | exact .inl rfl | exact .inr rfl, ?_⟩
    simp [AS.result, AS.resVars, AS.resVar, AS.ivOf, AS.ivsOf, AS.resC, AS.resCs, resCs_map, C.flat, AS.get, AS.obj, AS.ups, AS.put, List.lookup, res39, tab3, tab4, tab9, tab22, tab24, tab25, tab69, Dv.nodes]
    simp [Dv.nodesL] at hI
    omega
theorem nodes_c (d : Dv) (hb : d.nodes < 4611686018427387904) : ACalls Try.prog 39 [.agg d.cells] (.v (.one (.int d.nodes))) true := by
  revert hb
  induction d using Dv.ind with
  | h r i ks ih => intro hb; exact nodes_c_step r i ks hb ih
theorem call40 : Callable Try.prog 40 := callable_of Try.func40 (by kernel_rfl) (by kernel_rfl)
theorem res40 : Try.f40.results.toList = [.tmp 2] := rfl
set_option maxHeartbeats 4000000 in
set_option maxRecDepth 100000 in
theorem nodes_r_step (r i : Int) (ks : List Dv) (hb : (Dv.mk r i ks).nodes < 4611686018427387904) (ih : ∀ k ∈ ks, k.nodes < 4611686018427387904 → ACalls Try.prog 40 [.agg k.cells] (.v (.one (.int k.nodes))) true) : ACalls Try.prog 40 [.agg (Dv.mk r i ks).cells] (RV.v (.one (.int (Dv.mk r i ks).nodes))) true := by
  simp only [Dv.nodes] at hb
  refine acalls_of_awp Try.func40 rfl call40 false (by rw [Try.ntmps40]; simp) fun w0 S => ?_
  rw [Try.ntmps40]
  generalize hQ : Done Try.prog false Try.f40.results.toList (RV.v (.one (.int (Dv.mk r i ks).nodes))) true = Q
  simp only [start, startEnv, argAV, Nat.zero_add, Nat.reduceAdd, Dv.cells, List.map_cons, List.map_nil]
  refine awp_seq_k fun K0 hK0 => ?_
  refine awp_region' ([]) ?_
  simp [fxs, fxOf, dstOK, guardA, runOp, calleeOf, effOp, effBin, AS.ev, AS.get, AS.obj, AS.app, AS.ups, AS.put, AS.behind, AS.rowsOf, AS.resC, AS.resCs, resCs_map, AS.resIV, AS.resArgs, AS.evParts, fillA, AS.fillRows, effCall, ivAV, ivAVs, avOf, acOf, A1.cells, C.flat, List.lookup, Fx.Holds, AS.behindRegion, AS.apps, thenA, inBlockA, InI64, splice, tab3, tab4, tab9, tab22, tab24, tab25, tab69]
  repeat (refine ⟨by first | assumption | omega, ?_⟩)
  apply hK0
  try clear hK0 K0
  refine awp_seq_k fun K1 hK1 => ?_
  refine awp_region' ([]) ?_
  simp [fxs, fxOf, dstOK, guardA, runOp, calleeOf, effOp, effBin, AS.ev, AS.get, AS.obj, AS.app, AS.ups, AS.put, AS.behind, AS.rowsOf, AS.resC, AS.resCs, resCs_map, AS.resIV, AS.resArgs, AS.evParts, fillA, AS.fillRows, effCall, ivAV, ivAVs, avOf, acOf, A1.cells, C.flat, List.lookup, Fx.Holds, AS.behindRegion, AS.apps, thenA, inBlockA, InI64, splice, tab3, tab4, tab9, tab22, tab24, tab25, tab69]
  repeat (refine ⟨by first | assumption | omega, ?_⟩)
  apply hK1
  try clear hK1 K1
  refine awp_seq_k fun K2 hK2 => ?_
  refine awp_seq_k fun K3 hK3 => ?_
  refine awp_region' ([]) ?_
  simp [fxs, fxOf, dstOK, guardA, runOp, calleeOf, effOp, effBin, AS.ev, AS.get, AS.obj, AS.app, AS.ups, AS.put, AS.behind, AS.rowsOf, AS.resC, AS.resCs, resCs_map, AS.resIV, AS.resArgs, AS.evParts, fillA, AS.fillRows, effCall, ivAV, ivAVs, avOf, acOf, A1.cells, C.flat, List.lookup, Fx.Holds, AS.behindRegion, AS.apps, thenA, inBlockA, InI64, splice, tab3, tab4, tab9, tab22, tab24, tab25, tab69]
  repeat (refine ⟨by first | assumption | omega, ?_⟩)
  apply hK3
  try clear hK3 K3
  refine awp_block ?_
  refine awp_round (A := Int) (ks.length) (fun k a => 0 ≤ a ∧ a + (Dv.nodesL (ks.drop k) : Int) = 1 + Dv.nodesL ks) [1] (fun k a => [(3, iv a), (4, iv k)]) (fun k a => []) (1) ?_ ?_ ?_ ?_
  · simp
  · refine ⟨?_, ?_, ?_⟩ <;> simp [AS.get, AS.obj, List.lookup, dd, List.filter_cons, List.filter_nil, tab3, tab4, tab9, tab22, tab24, tab25, tab69]
  · intro k a; simp [wfs, AV.wf, A1.wf, AC.wf, Ob.wf, Below', iv, bv, tab3, tab4, tab9, tab22, tab24, tab25, tab69]
  intro k a KL0 hk hI hKL0 sl hsl
  simp [AS.cut, AS.get, AS.obj, List.lookup, dd, List.filter_cons, List.filter_nil, tab3, tab4, tab9, tab22, tab24, tab25, tab69] at hsl
  subst hsl
  refine awp_seq_k fun K4 hK4 => ?_
  refine awp_seq_k fun K5 hK5 => ?_
  refine awp_region' ([]) ?_
  simp [fxs, fxOf, dstOK, guardA, runOp, calleeOf, effOp, effBin, AS.ev, AS.get, AS.obj, AS.app, AS.ups, AS.put, AS.behind, AS.rowsOf, AS.resC, AS.resCs, resCs_map, AS.resIV, AS.resArgs, AS.evParts, fillA, AS.fillRows, effCall, ivAV, ivAVs, avOf, acOf, A1.cells, C.flat, List.lookup, Fx.Holds, AS.behindRegion, AS.apps, thenA, inBlockA, InI64, splice, tab3, tab4, tab9, tab22, tab24, tab25, tab69, Dv.rows_length]
  repeat (refine ⟨by first | assumption | omega, ?_⟩)
  apply hK5
  try clear hK5 K5
  refine awp_cond rfl (fun hb_t9 => ?_) (fun hb_t9 => ?_)
  · try simp at hb_t9
    have hlen := Dv.length_le ks
    have hrow := Dv.rows_get hb_t9
    have hcl := Dv.cells_length ks[k]
    have hmem : ks[k] ∈ ks := List.getElem_mem _
    have hd := Dv.nodesL_drop hb_t9
    have hm := Dv.nodes_mem hmem
    have hc := ih ks[k] hmem (by omega)
    refine awp_skip ?_
    try simp only [thenA, inBlockA]
    apply hK4
    try clear hK4 K4
    refine awp_seq_k fun K6 hK6 => ?_
    refine awp_block ?_
    refine awp_region' ([(6, .v (.one (.int ks[k].nodes)), true)]) ?_
    simp [fxs, fxOf, dstOK, guardA, runOp, calleeOf, effOp, effBin, AS.ev, AS.get, AS.obj, AS.app, AS.ups, AS.put, AS.behind, AS.rowsOf, AS.resC, AS.resCs, resCs_map, AS.resIV, AS.resArgs, AS.evParts, fillA, AS.fillRows, effCall, ivAV, ivAVs, avOf, acOf, A1.cells, C.flat, List.lookup, Fx.Holds, AS.behindRegion, AS.apps, thenA, inBlockA, InI64, splice, tab3, tab4, tab9, tab22, tab24, tab25, tab69, Dv.rows_length, hrow, hcl, hc]
    repeat (refine ⟨by first | assumption | omega, ?_⟩)
    apply hK6
    try clear hK6 K6
    refine awp_region' ([]) ?_
    simp [fxs, fxOf, dstOK, guardA, runOp, calleeOf, effOp, effBin, AS.ev, AS.get, AS.obj, AS.app, AS.ups, AS.put, AS.behind, AS.rowsOf, AS.resC, AS.resCs, resCs_map, AS.resIV, AS.resArgs, AS.evParts, fillA, AS.fillRows, effCall, ivAV, ivAVs, avOf, acOf, A1.cells, C.flat, List.lookup, Fx.Holds, AS.behindRegion, AS.apps, thenA, inBlockA, InI64, splice, tab3, tab4, tab9, tab22, tab24, tab25, tab69]
    repeat (refine ⟨by first | assumption | omega, ?_⟩)
    refine hKL0 _ (a + ks[k].nodes) (by omega) ?_ ?_
    · first | assumption | omega
    · refine ⟨?_, ?_, ?_⟩ <;> simp [AS.get, AS.obj, List.lookup, dd, List.filter_cons, List.filter_nil, tab3, tab4, tab9, tab22, tab24, tab25, tab69]
  · try simp at hb_t9
    have hk2 : k = ks.length := by omega
    subst hk2
    refine awp_exit ?_
    try simp only [thenA, inBlockA, if_true, if_false, reduceIte, Nat.reduceEqDiff]
    apply hK2
    try clear hK2 K2
    refine awp_seq_k fun K7 hK7 => ?_
    refine awp_region' ([]) ?_
    simp [fxs, fxOf, dstOK, guardA, runOp, calleeOf, effOp, effBin, AS.ev, AS.get, AS.obj, AS.app, AS.ups, AS.put, AS.behind, AS.rowsOf, AS.resC, AS.resCs, resCs_map, AS.resIV, AS.resArgs, AS.evParts, fillA, AS.fillRows, effCall, ivAV, ivAVs, avOf, acOf, A1.cells, C.flat, List.lookup, Fx.Holds, AS.behindRegion, AS.apps, thenA, inBlockA, InI64, splice, tab3, tab4, tab9, tab22, tab24, tab25, tab69]
    repeat (refine ⟨by first | assumption | omega, ?_⟩)
    apply hK7
    try clear hK7 K7
    refine awp_ret ?_
    try simp only [thenA, inBlockA]
    rw [← hQ]
    refine ⟨by first | exact .inl rfl | exact .inr rfl, ?_⟩
    simp [AS.result, AS.resVars, AS.resVar, AS.ivOf, AS.ivsOf, AS.resC, AS.resCs, resCs_map, C.flat, AS.get, AS.obj, AS.ups, AS.put, List.lookup, res40, tab3, tab4, tab9, tab22, tab24, tab25, tab69, Dv.nodes]
    simp [Dv.nodesL] at hI
    omega
theorem nodes_r (d : Dv) (hb : d.nodes < 4611686018427387904) : ACalls Try.prog 40 [.agg d.cells] (.v (.one (.int d.nodes))) true := by
  revert hb
  induction d using Dv.ind with
  | h r i ks ih => intro hb; exact nodes_r_step r i ks hb ih
theorem call41 : Callable Try.prog 41 := callable_of Try.func41 (by kernel_rfl) (by kernel_rfl)
theorem res41 : Try.f41.results.toList = [.tmp 2] := rfl
set_option maxHeartbeats 4000000 in
set_option maxRecDepth 100000 in
theorem deep_c_step (r i : Int) (ks : List Dv) (hb : (Dv.mk r i ks).nodes < 4611686018427387904) (ih : ∀ k ∈ ks, k.nodes < 4611686018427387904 → ACalls Try.prog 41 [.agg k.cells] (.v (.one (.int k.deep))) true) : ACalls Try.prog 41 [.agg (Dv.mk r i ks).cells] (RV.v (.one (.int (Dv.mk r i ks).deep))) true := by
  simp only [Dv.nodes] at hb
  have hdl := Dv.deepL_le ks
  refine acalls_of_awp Try.func41 rfl call41 false (by rw [Try.ntmps41]; simp) fun w0 S => ?_
  rw [Try.ntmps41]
  generalize hQ : Done Try.prog false Try.f41.results.toList (RV.v (.one (.int (Dv.mk r i ks).deep))) true = Q
  simp only [start, startEnv, argAV, Nat.zero_add, Nat.reduceAdd, Dv.cells, List.map_cons, List.map_nil]
  refine awp_seq_k fun K0 hK0 => ?_
  refine awp_region' ([]) ?_
  simp [fxs, fxOf, dstOK, guardA, runOp, calleeOf, effOp, effBin, AS.ev, AS.get, AS.obj, AS.app, AS.ups, AS.put, AS.behind, AS.rowsOf, AS.resC, AS.resCs, resCs_map, AS.resIV, AS.resArgs, AS.evParts, fillA, AS.fillRows, effCall, ivAV, ivAVs, avOf, acOf, A1.cells, C.flat, List.lookup, Fx.Holds, AS.behindRegion, AS.apps, thenA, inBlockA, InI64, splice, tab3, tab4, tab9, tab22, tab24, tab25, tab69]
  repeat (refine ⟨by first | assumption | omega, ?_⟩)
  apply hK0
  try clear hK0 K0
  refine awp_seq_k fun K1 hK1 => ?_
  refine awp_region' ([]) ?_
  simp [fxs, fxOf, dstOK, guardA, runOp, calleeOf, effOp, effBin, AS.ev, AS.get, AS.obj, AS.app, AS.ups, AS.put, AS.behind, AS.rowsOf, AS.resC, AS.resCs, resCs_map, AS.resIV, AS.resArgs, AS.evParts, fillA, AS.fillRows, effCall, ivAV, ivAVs, avOf, acOf, A1.cells, C.flat, List.lookup, Fx.Holds, AS.behindRegion, AS.apps, thenA, inBlockA, InI64, splice, tab3, tab4, tab9, tab22, tab24, tab25, tab69]
  repeat (refine ⟨by first | assumption | omega, ?_⟩)
  apply hK1
  try clear hK1 K1
  refine awp_seq_k fun K2 hK2 => ?_
  refine awp_seq_k fun K3 hK3 => ?_
  refine awp_region' ([]) ?_
  simp [fxs, fxOf, dstOK, guardA, runOp, calleeOf, effOp, effBin, AS.ev, AS.get, AS.obj, AS.app, AS.ups, AS.put, AS.behind, AS.rowsOf, AS.resC, AS.resCs, resCs_map, AS.resIV, AS.resArgs, AS.evParts, fillA, AS.fillRows, effCall, ivAV, ivAVs, avOf, acOf, A1.cells, C.flat, List.lookup, Fx.Holds, AS.behindRegion, AS.apps, thenA, inBlockA, InI64, splice, tab3, tab4, tab9, tab22, tab24, tab25, tab69, Dv.rows_length]
  repeat (refine ⟨by first | assumption | omega, ?_⟩)
  apply hK3
  try clear hK3 K3
  refine awp_block ?_
  refine awp_round (A := Int) (ks.length) (fun k a => 0 ≤ a ∧ max a (Dv.deepL (ks.drop k) : Int) = Dv.deepL ks) [7, 8] (fun k a => [(3, iv a), (9, iv k)]) (fun k a => []) (0) ?_ ?_ ?_ ?_
  · simp
  · refine ⟨?_, ?_, ?_⟩ <;> simp [AS.get, AS.obj, List.lookup, dd, List.filter_cons, List.filter_nil, tab3, tab4, tab9, tab22, tab24, tab25, tab69]
  · intro k a; simp [wfs, AV.wf, A1.wf, AC.wf, Ob.wf, Below', iv, bv, tab3, tab4, tab9, tab22, tab24, tab25, tab69]
  intro k a KL0 hk hI hKL0 sl hsl
  simp [AS.cut, AS.get, AS.obj, List.lookup, dd, List.filter_cons, List.filter_nil, tab3, tab4, tab9, tab22, tab24, tab25, tab69] at hsl
  subst hsl
  refine awp_seq_k fun K4 hK4 => ?_
  refine awp_region' ([]) ?_
  simp [fxs, fxOf, dstOK, guardA, runOp, calleeOf, effOp, effBin, AS.ev, AS.get, AS.obj, AS.app, AS.ups, AS.put, AS.behind, AS.rowsOf, AS.resC, AS.resCs, resCs_map, AS.resIV, AS.resArgs, AS.evParts, fillA, AS.fillRows, effCall, ivAV, ivAVs, avOf, acOf, A1.cells, C.flat, List.lookup, Fx.Holds, AS.behindRegion, AS.apps, thenA, inBlockA, InI64, splice, tab3, tab4, tab9, tab22, tab24, tab25, tab69]
  repeat (refine ⟨by first | assumption | omega, ?_⟩)
  apply hK4
  try clear hK4 K4
  refine awp_seq_k fun K5 hK5 => ?_
  refine awp_cond rfl (fun hb_t10 => ?_) (fun hb_t10 => ?_)
  · try simp at hb_t10
    have hlen := Dv.length_le ks
    have hrow := Dv.rows_get hb_t10
    have hcl := Dv.cells_length ks[k]
    have hmem : ks[k] ∈ ks := List.getElem_mem _
    have hd := Dv.deepL_drop hb_t10
    have hm := Dv.nodes_mem hmem
    have hc := ih ks[k] hmem (by omega)
    refine awp_skip ?_
    try simp only [thenA, inBlockA]
    apply hK5
    try clear hK5 K5
    refine awp_seq_k fun K6 hK6 => ?_
    refine awp_block ?_
    refine awp_seq_k fun K7 hK7 => ?_
    refine awp_region' ([]) ?_
    simp [fxs, fxOf, dstOK, guardA, runOp, calleeOf, effOp, effBin, AS.ev, AS.get, AS.obj, AS.app, AS.ups, AS.put, AS.behind, AS.rowsOf, AS.resC, AS.resCs, resCs_map, AS.resIV, AS.resArgs, AS.evParts, fillA, AS.fillRows, effCall, ivAV, ivAVs, avOf, acOf, A1.cells, C.flat, List.lookup, Fx.Holds, AS.behindRegion, AS.apps, thenA, inBlockA, InI64, splice, tab3, tab4, tab9, tab22, tab24, tab25, tab69, Dv.rows_length, hrow, hcl]
    repeat (refine ⟨by first | assumption | omega, ?_⟩)
    apply hK7
    try clear hK7 K7
    refine awp_region' ([(2, .v (.one (.int ks[k].deep)), true)]) ?_
    simp [fxs, fxOf, dstOK, guardA, runOp, calleeOf, effOp, effBin, AS.ev, AS.get, AS.obj, AS.app, AS.ups, AS.put, AS.behind, AS.rowsOf, AS.resC, AS.resCs, resCs_map, AS.resIV, AS.resArgs, AS.evParts, fillA, AS.fillRows, effCall, ivAV, ivAVs, avOf, acOf, A1.cells, C.flat, List.lookup, Fx.Holds, AS.behindRegion, AS.apps, thenA, inBlockA, InI64, splice, tab3, tab4, tab9, tab22, tab24, tab25, tab69, hcl, hc]
    repeat (refine ⟨by first | assumption | omega, ?_⟩)
    apply hK6
    try clear hK6 K6
    refine awp_region' ([]) ?_
    simp [fxs, fxOf, dstOK, guardA, runOp, calleeOf, effOp, effBin, AS.ev, AS.get, AS.obj, AS.app, AS.ups, AS.put, AS.behind, AS.rowsOf, AS.resC, AS.resCs, resCs_map, AS.resIV, AS.resArgs, AS.evParts, fillA, AS.fillRows, effCall, ivAV, ivAVs, avOf, acOf, A1.cells, C.flat, List.lookup, Fx.Holds, AS.behindRegion, AS.apps, thenA, inBlockA, InI64, splice, tab3, tab4, tab9, tab22, tab24, tab25, tab69]
    repeat (refine ⟨by first | assumption | omega, ?_⟩)
    refine hKL0 _ (max a ks[k].deep) (by omega) ?_ ?_
    · first | assumption | omega
    · refine ⟨?_, ?_, ?_⟩ <;> simp [AS.get, AS.obj, List.lookup, dd, List.filter_cons, List.filter_nil, tab3, tab4, tab9, tab22, tab24, tab25, tab69]
  · try simp at hb_t10
    have hk2 : k = ks.length := by omega
    subst hk2
    refine awp_exit ?_
    try simp only [thenA, inBlockA, if_true, if_false, reduceIte, Nat.reduceEqDiff]
    apply hK2
    try clear hK2 K2
    refine awp_seq_k fun K8 hK8 => ?_
    refine awp_region' ([]) ?_
    simp [fxs, fxOf, dstOK, guardA, runOp, calleeOf, effOp, effBin, AS.ev, AS.get, AS.obj, AS.app, AS.ups, AS.put, AS.behind, AS.rowsOf, AS.resC, AS.resCs, resCs_map, AS.resIV, AS.resArgs, AS.evParts, fillA, AS.fillRows, effCall, ivAV, ivAVs, avOf, acOf, A1.cells, C.flat, List.lookup, Fx.Holds, AS.behindRegion, AS.apps, thenA, inBlockA, InI64, splice, tab3, tab4, tab9, tab22, tab24, tab25, tab69]
    repeat (refine ⟨by first | assumption | omega, ?_⟩)
    apply hK8
    try clear hK8 K8
    refine awp_ret ?_
    try simp only [thenA, inBlockA]
    rw [← hQ]
    refine ⟨by first | exact .inl rfl | exact .inr rfl, ?_⟩
    simp [AS.result, AS.resVars, AS.resVar, AS.ivOf, AS.ivsOf, AS.resC, AS.resCs, resCs_map, C.flat, AS.get, AS.obj, AS.ups, AS.put, List.lookup, res41, tab3, tab4, tab9, tab22, tab24, tab25, tab69, Dv.deep]
    simp [Dv.deepL] at hI
    omega
theorem deep_c (d : Dv) (hb : d.nodes < 4611686018427387904) : ACalls Try.prog 41 [.agg d.cells] (.v (.one (.int d.deep))) true := by
  revert hb
  induction d using Dv.ind with
  | h r i ks ih => intro hb; exact deep_c_step r i ks hb ih
theorem call42 : Callable Try.prog 42 := callable_of Try.func42 (by kernel_rfl) (by kernel_rfl)
theorem res42 : Try.f42.results.toList = [.tmp 2] := rfl
set_option maxHeartbeats 4000000 in
set_option maxRecDepth 100000 in
theorem deep_r_step (r i : Int) (ks : List Dv) (hb : (Dv.mk r i ks).nodes < 4611686018427387904) (ih : ∀ k ∈ ks, k.nodes < 4611686018427387904 → ACalls Try.prog 42 [.agg k.cells] (.v (.one (.int k.deep))) true) : ACalls Try.prog 42 [.agg (Dv.mk r i ks).cells] (RV.v (.one (.int (Dv.mk r i ks).deep))) true := by
  simp only [Dv.nodes] at hb
  have hdl := Dv.deepL_le ks
  refine acalls_of_awp Try.func42 rfl call42 false (by rw [Try.ntmps42]; simp) fun w0 S => ?_
  rw [Try.ntmps42]
  generalize hQ : Done Try.prog false Try.f42.results.toList (RV.v (.one (.int (Dv.mk r i ks).deep))) true = Q
  simp only [start, startEnv, argAV, Nat.zero_add, Nat.reduceAdd, Dv.cells, List.map_cons, List.map_nil]
  refine awp_seq_k fun K0 hK0 => ?_
  refine awp_region' ([]) ?_
  simp [fxs, fxOf, dstOK, guardA, runOp, calleeOf, effOp, effBin, AS.ev, AS.get, AS.obj, AS.app, AS.ups, AS.put, AS.behind, AS.rowsOf, AS.resC, AS.resCs, resCs_map, AS.resIV, AS.resArgs, AS.evParts, fillA, AS.fillRows, effCall, ivAV, ivAVs, avOf, acOf, A1.cells, C.flat, List.lookup, Fx.Holds, AS.behindRegion, AS.apps, thenA, inBlockA, InI64, splice, tab3, tab4, tab9, tab22, tab24, tab25, tab69]
  repeat (refine ⟨by first | assumption | omega, ?_⟩)
  apply hK0
  try clear hK0 K0
  refine awp_seq_k fun K1 hK1 => ?_
  refine awp_region' ([]) ?_
  simp [fxs, fxOf, dstOK, guardA, runOp, calleeOf, effOp, effBin, AS.ev, AS.get, AS.obj, AS.app, AS.ups, AS.put, AS.behind, AS.rowsOf, AS.resC, AS.resCs, resCs_map, AS.resIV, AS.resArgs, AS.evParts, fillA, AS.fillRows, effCall, ivAV, ivAVs, avOf, acOf, A1.cells, C.flat, List.lookup, Fx.Holds, AS.behindRegion, AS.apps, thenA, inBlockA, InI64, splice, tab3, tab4, tab9, tab22, tab24, tab25, tab69]
  repeat (refine ⟨by first | assumption | omega, ?_⟩)
  apply hK1
  try clear hK1 K1
  refine awp_seq_k fun K2 hK2 => ?_
  refine awp_seq_k fun K3 hK3 => ?_
  refine awp_region' ([]) ?_
  simp [fxs, fxOf, dstOK, guardA, runOp, calleeOf, effOp, effBin, AS.ev, AS.get, AS.obj, AS.app, AS.ups, AS.put, AS.behind, AS.rowsOf, AS.resC, AS.resCs, resCs_map, AS.resIV, AS.resArgs, AS.evParts, fillA, AS.fillRows, effCall, ivAV, ivAVs, avOf, acOf, A1.cells, C.flat, List.lookup, Fx.Holds, AS.behindRegion, AS.apps, thenA, inBlockA, InI64, splice, tab3, tab4, tab9, tab22, tab24, tab25, tab69]
  repeat (refine ⟨by first | assumption | omega, ?_⟩)
  apply hK3
  try clear hK3 K3
  refine awp_block ?_
  refine awp_round (A := Int) (ks.length) (fun k a => 0 ≤ a ∧ max a (Dv.deepL (ks.drop k) : Int) = Dv.deepL ks) [1] (fun k a => [(3, iv a), (4, iv k)]) (fun k a => []) (0) ?_ ?_ ?_ ?_
  · simp
  · refine ⟨?_, ?_, ?_⟩ <;> simp [AS.get, AS.obj, List.lookup, dd, List.filter_cons, List.filter_nil, tab3, tab4, tab9, tab22, tab24, tab25, tab69]
  · intro k a; simp [wfs, AV.wf, A1.wf, AC.wf, Ob.wf, Below', iv, bv, tab3, tab4, tab9, tab22, tab24, tab25, tab69]
  intro k a KL0 hk hI hKL0 sl hsl
  simp [AS.cut, AS.get, AS.obj, List.lookup, dd, List.filter_cons, List.filter_nil, tab3, tab4, tab9, tab22, tab24, tab25, tab69] at hsl
  subst hsl
  refine awp_seq_k fun K4 hK4 => ?_
  refine awp_seq_k fun K5 hK5 => ?_
  refine awp_region' ([]) ?_
  simp [fxs, fxOf, dstOK, guardA, runOp, calleeOf, effOp, effBin, AS.ev, AS.get, AS.obj, AS.app, AS.ups, AS.put, AS.behind, AS.rowsOf, AS.resC, AS.resCs, resCs_map, AS.resIV, AS.resArgs, AS.evParts, fillA, AS.fillRows, effCall, ivAV, ivAVs, avOf, acOf, A1.cells, C.flat, List.lookup, Fx.Holds, AS.behindRegion, AS.apps, thenA, inBlockA, InI64, splice, tab3, tab4, tab9, tab22, tab24, tab25, tab69, Dv.rows_length]
  repeat (refine ⟨by first | assumption | omega, ?_⟩)
  apply hK5
  try clear hK5 K5
  refine awp_cond rfl (fun hb_t9 => ?_) (fun hb_t9 => ?_)
  · try simp at hb_t9
    have hlen := Dv.length_le ks
    have hrow := Dv.rows_get hb_t9
    have hcl := Dv.cells_length ks[k]
    have hmem : ks[k] ∈ ks := List.getElem_mem _
    have hd := Dv.deepL_drop hb_t9
    have hm := Dv.nodes_mem hmem
    have hc := ih ks[k] hmem (by omega)
    refine awp_skip ?_
    try simp only [thenA, inBlockA]
    apply hK4
    try clear hK4 K4
    refine awp_seq_k fun K6 hK6 => ?_
    refine awp_block ?_
    refine awp_region' ([(6, .v (.one (.int ks[k].deep)), true)]) ?_
    simp [fxs, fxOf, dstOK, guardA, runOp, calleeOf, effOp, effBin, AS.ev, AS.get, AS.obj, AS.app, AS.ups, AS.put, AS.behind, AS.rowsOf, AS.resC, AS.resCs, resCs_map, AS.resIV, AS.resArgs, AS.evParts, fillA, AS.fillRows, effCall, ivAV, ivAVs, avOf, acOf, A1.cells, C.flat, List.lookup, Fx.Holds, AS.behindRegion, AS.apps, thenA, inBlockA, InI64, splice, tab3, tab4, tab9, tab22, tab24, tab25, tab69, Dv.rows_length, hrow, hcl, hc]
    repeat (refine ⟨by first | assumption | omega, ?_⟩)
    apply hK6
    try clear hK6 K6
    refine awp_region' ([]) ?_
    simp [fxs, fxOf, dstOK, guardA, runOp, calleeOf, effOp, effBin, AS.ev, AS.get, AS.obj, AS.app, AS.ups, AS.put, AS.behind, AS.rowsOf, AS.resC, AS.resCs, resCs_map, AS.resIV, AS.resArgs, AS.evParts, fillA, AS.fillRows, effCall, ivAV, ivAVs, avOf, acOf, A1.cells, C.flat, List.lookup, Fx.Holds, AS.behindRegion, AS.apps, thenA, inBlockA, InI64, splice, tab3, tab4, tab9, tab22, tab24, tab25, tab69]
    repeat (refine ⟨by first | assumption | omega, ?_⟩)
    refine hKL0 _ (max a ks[k].deep) (by omega) ?_ ?_
    · first | assumption | omega
    · refine ⟨?_, ?_, ?_⟩ <;> simp [AS.get, AS.obj, List.lookup, dd, List.filter_cons, List.filter_nil, tab3, tab4, tab9, tab22, tab24, tab25, tab69]
  · try simp at hb_t9
    have hk2 : k = ks.length := by omega
    subst hk2
    refine awp_exit ?_
    try simp only [thenA, inBlockA, if_true, if_false, reduceIte, Nat.reduceEqDiff]
    apply hK2
    try clear hK2 K2
    refine awp_seq_k fun K7 hK7 => ?_
    refine awp_region' ([]) ?_
    simp [fxs, fxOf, dstOK, guardA, runOp, calleeOf, effOp, effBin, AS.ev, AS.get, AS.obj, AS.app, AS.ups, AS.put, AS.behind, AS.rowsOf, AS.resC, AS.resCs, resCs_map, AS.resIV, AS.resArgs, AS.evParts, fillA, AS.fillRows, effCall, ivAV, ivAVs, avOf, acOf, A1.cells, C.flat, List.lookup, Fx.Holds, AS.behindRegion, AS.apps, thenA, inBlockA, InI64, splice, tab3, tab4, tab9, tab22, tab24, tab25, tab69]
    repeat (refine ⟨by first | assumption | omega, ?_⟩)
    apply hK7
    try clear hK7 K7
    refine awp_ret ?_
    try simp only [thenA, inBlockA]
    rw [← hQ]
    refine ⟨by first | exact .inl rfl | exact .inr rfl, ?_⟩
    simp [AS.result, AS.resVars, AS.resVar, AS.ivOf, AS.ivsOf, AS.resC, AS.resCs, resCs_map, C.flat, AS.get, AS.obj, AS.ups, AS.put, List.lookup, res42, tab3, tab4, tab9, tab22, tab24, tab25, tab69, Dv.deep]
    simp [Dv.deepL] at hI
    omega
theorem deep_r (d : Dv) (hb : d.nodes < 4611686018427387904) : ACalls Try.prog 42 [.agg d.cells] (.v (.one (.int d.deep))) true := by
  revert hb
  induction d using Dv.ind with
  | h r i ks ih => intro hb; exact deep_r_step r i ks hb ih
end Go.Proofs.Yteaglcbnkephgaa

namespace Go.Proofs.Yteaglcbnkephgaa
open Go Go.RowKit
theorem call37 : Callable Try.prog 37 := callable_of Try.func37 (by kernel_rfl) (by kernel_rfl)
theorem res37 : Try.f37.results.toList = [.tmp 2] := rfl
set_option maxHeartbeats 4000000 in
set_option maxRecDepth 100000 in
theorem right_c_step (r i : Int) (ks : List Dv) (ih : ∀ k ∈ ks, ACalls Try.prog 37 [.agg k.cells] (.v (.one (.bool k.right))) true) : ACalls Try.prog 37 [.agg (Dv.mk r i ks).cells] (RV.v (.one (.bool (Dv.mk r i ks).right))) true := by
  refine acalls_of_awp Try.func37 rfl call37 false (by rw [Try.ntmps37]; simp) fun w0 S => ?_
  rw [Try.ntmps37]
  generalize hQ : Done Try.prog false Try.f37.results.toList (RV.v (.one (.bool (Dv.mk r i ks).right))) true = Q
  simp only [start, startEnv, argAV, Nat.zero_add, Nat.reduceAdd, Dv.cells, List.map_cons, List.map_nil]
  refine awp_seq_k fun K0 hK0 => ?_
  refine awp_region' ([]) ?_
  simp [fxs, fxOf, dstOK, guardA, runOp, calleeOf, effOp, effBin, AS.ev, AS.get, AS.obj, AS.app, AS.ups, AS.put, AS.behind, AS.rowsOf, AS.resC, AS.resCs, resCs_map, AS.resIV, AS.resArgs, AS.evParts, fillA, AS.fillRows, effCall, ivAV, ivAVs, avOf, acOf, A1.cells, C.flat, List.lookup, Fx.Holds, AS.behindRegion, AS.apps, thenA, inBlockA, InI64, splice, tab3, tab4, tab9, tab22, tab24, tab25, tab69]
  repeat (refine ⟨by first | assumption | omega, ?_⟩)
  apply hK0
  try clear hK0 K0
  refine awp_seq_k fun K1 hK1 => ?_
  refine awp_cut [1] ([(36, bv (!dhead r i ks.length))]) ([]) ?_ ?_ ?_
  · simp [wfs, AV.wf, A1.wf, AC.wf, Ob.wf, Below', iv, bv, tab3, tab4, tab9, tab22, tab24, tab25, tab69]
  · intro K2 hK2
    by_cases hs0 : dkids r = ks.length
    · by_cases hs1 : i < 0
      · refine awp_region_draw' mixed ([(2, .v (.one (.int (dkids r))), true)]) ?_
        simp [fxs, fxOf, dstOK, guardA, runOp, calleeOf, effOp, effBin, AS.ev, AS.get, AS.obj, AS.app, AS.ups, AS.put, AS.behind, AS.rowsOf, AS.resC, AS.resCs, resCs_map, AS.resIV, AS.resArgs, AS.evParts, fillA, AS.fillRows, effCall, ivAV, ivAVs, avOf, acOf, A1.cells, C.flat, List.lookup, Fx.Holds, AS.behindRegion, AS.apps, thenA, inBlockA, InI64, splice, tab3, tab4, tab9, tab22, tab24, tab25, tab69, Dv.rows_length, dkids_c, eq_true hs0, eq_true hs1]
        refine ⟨by kernel_rfl, ?_⟩
        repeat (refine ⟨by first | assumption | omega, ?_⟩)
        refine hK2 _ ⟨?_, ?_, ?_⟩ <;> simp [AS.get, AS.obj, List.lookup, dd, List.filter_cons, List.filter_nil, tab3, tab4, tab9, tab22, tab24, tab25, tab69, dhead, Dv.rows_length, eq_true hs0, eq_true hs1]
        all_goals first | omega | (simp_all <;> omega)
      · by_cases hs2 : 1000000 < i
        · refine awp_region_draw' mixed ([(2, .v (.one (.int (dkids r))), true)]) ?_
          simp [fxs, fxOf, dstOK, guardA, runOp, calleeOf, effOp, effBin, AS.ev, AS.get, AS.obj, AS.app, AS.ups, AS.put, AS.behind, AS.rowsOf, AS.resC, AS.resCs, resCs_map, AS.resIV, AS.resArgs, AS.evParts, fillA, AS.fillRows, effCall, ivAV, ivAVs, avOf, acOf, A1.cells, C.flat, List.lookup, Fx.Holds, AS.behindRegion, AS.apps, thenA, inBlockA, InI64, splice, tab3, tab4, tab9, tab22, tab24, tab25, tab69, Dv.rows_length, dkids_c, eq_true hs0, eq_false hs1, eq_true hs2]
          refine ⟨by kernel_rfl, ?_⟩
          repeat (refine ⟨by first | assumption | omega, ?_⟩)
          refine hK2 _ ⟨?_, ?_, ?_⟩ <;> simp [AS.get, AS.obj, List.lookup, dd, List.filter_cons, List.filter_nil, tab3, tab4, tab9, tab22, tab24, tab25, tab69, dhead, Dv.rows_length, eq_true hs0, eq_false hs1, eq_true hs2]
          all_goals first | omega | (simp_all <;> omega)
        · by_cases hs3 : i = 0
          · refine awp_region_draw' mixed ([(2, .v (.one (.int (dkids r))), true)]) ?_
            simp [fxs, fxOf, dstOK, guardA, runOp, calleeOf, effOp, effBin, AS.ev, AS.get, AS.obj, AS.app, AS.ups, AS.put, AS.behind, AS.rowsOf, AS.resC, AS.resCs, resCs_map, AS.resIV, AS.resArgs, AS.evParts, fillA, AS.fillRows, effCall, ivAV, ivAVs, avOf, acOf, A1.cells, C.flat, List.lookup, Fx.Holds, AS.behindRegion, AS.apps, thenA, inBlockA, InI64, splice, tab3, tab4, tab9, tab22, tab24, tab25, tab69, Dv.rows_length, dkids_c, eq_true hs0, eq_false hs1, eq_false hs2, eq_true hs3]
            refine ⟨by kernel_rfl, ?_⟩
            repeat (refine ⟨by first | assumption | omega, ?_⟩)
            refine hK2 _ ⟨?_, ?_, ?_⟩ <;> simp [AS.get, AS.obj, List.lookup, dd, List.filter_cons, List.filter_nil, tab3, tab4, tab9, tab22, tab24, tab25, tab69, dhead, Dv.rows_length, eq_true hs0, eq_false hs1, eq_false hs2, eq_true hs3]
            all_goals first | omega | (simp_all <;> omega)
          · by_cases hs4 : r = 1
            · refine awp_region_draw' mixed ([(2, .v (.one (.int (dkids r))), true)]) ?_
              simp [fxs, fxOf, dstOK, guardA, runOp, calleeOf, effOp, effBin, AS.ev, AS.get, AS.obj, AS.app, AS.ups, AS.put, AS.behind, AS.rowsOf, AS.resC, AS.resCs, resCs_map, AS.resIV, AS.resArgs, AS.evParts, fillA, AS.fillRows, effCall, ivAV, ivAVs, avOf, acOf, A1.cells, C.flat, List.lookup, Fx.Holds, AS.behindRegion, AS.apps, thenA, inBlockA, InI64, splice, tab3, tab4, tab9, tab22, tab24, tab25, tab69, Dv.rows_length, dkids_c, eq_true hs0, eq_false hs1, eq_false hs2, eq_false hs3, eq_true hs4]
              refine ⟨by kernel_rfl, ?_⟩
              repeat (refine ⟨by first | assumption | omega, ?_⟩)
              refine hK2 _ ⟨?_, ?_, ?_⟩ <;> simp [AS.get, AS.obj, List.lookup, dd, List.filter_cons, List.filter_nil, tab3, tab4, tab9, tab22, tab24, tab25, tab69, dhead, Dv.rows_length, eq_true hs0, eq_false hs1, eq_false hs2, eq_false hs3, eq_true hs4]
              all_goals first | omega | (simp_all <;> omega)
            · by_cases hs5 : r = 2
              · refine awp_region_draw' mixed ([(2, .v (.one (.int (dkids r))), true)]) ?_
                simp [fxs, fxOf, dstOK, guardA, runOp, calleeOf, effOp, effBin, AS.ev, AS.get, AS.obj, AS.app, AS.ups, AS.put, AS.behind, AS.rowsOf, AS.resC, AS.resCs, resCs_map, AS.resIV, AS.resArgs, AS.evParts, fillA, AS.fillRows, effCall, ivAV, ivAVs, avOf, acOf, A1.cells, C.flat, List.lookup, Fx.Holds, AS.behindRegion, AS.apps, thenA, inBlockA, InI64, splice, tab3, tab4, tab9, tab22, tab24, tab25, tab69, Dv.rows_length, dkids_c, eq_true hs0, eq_false hs1, eq_false hs2, eq_false hs3, eq_false hs4, eq_true hs5]
                refine ⟨by kernel_rfl, ?_⟩
                repeat (refine ⟨by first | assumption | omega, ?_⟩)
                refine hK2 _ ⟨?_, ?_, ?_⟩ <;> simp [AS.get, AS.obj, List.lookup, dd, List.filter_cons, List.filter_nil, tab3, tab4, tab9, tab22, tab24, tab25, tab69, dhead, Dv.rows_length, eq_true hs0, eq_false hs1, eq_false hs2, eq_false hs3, eq_false hs4, eq_true hs5]
                all_goals first | omega | (simp_all <;> omega)
              · refine awp_region_draw' mixed ([(2, .v (.one (.int (dkids r))), true)]) ?_
                simp [fxs, fxOf, dstOK, guardA, runOp, calleeOf, effOp, effBin, AS.ev, AS.get, AS.obj, AS.app, AS.ups, AS.put, AS.behind, AS.rowsOf, AS.resC, AS.resCs, resCs_map, AS.resIV, AS.resArgs, AS.evParts, fillA, AS.fillRows, effCall, ivAV, ivAVs, avOf, acOf, A1.cells, C.flat, List.lookup, Fx.Holds, AS.behindRegion, AS.apps, thenA, inBlockA, InI64, splice, tab3, tab4, tab9, tab22, tab24, tab25, tab69, Dv.rows_length, dkids_c, eq_true hs0, eq_false hs1, eq_false hs2, eq_false hs3, eq_false hs4, eq_false hs5]
                refine ⟨by kernel_rfl, ?_⟩
                repeat (refine ⟨by first | assumption | omega, ?_⟩)
                refine hK2 _ ⟨?_, ?_, ?_⟩ <;> simp [AS.get, AS.obj, List.lookup, dd, List.filter_cons, List.filter_nil, tab3, tab4, tab9, tab22, tab24, tab25, tab69, dhead, Dv.rows_length, eq_true hs0, eq_false hs1, eq_false hs2, eq_false hs3, eq_false hs4, eq_false hs5]
                all_goals first | omega | (simp_all <;> omega)
    · refine awp_region_draw' mixed ([(2, .v (.one (.int (dkids r))), true)]) ?_
      simp [fxs, fxOf, dstOK, guardA, runOp, calleeOf, effOp, effBin, AS.ev, AS.get, AS.obj, AS.app, AS.ups, AS.put, AS.behind, AS.rowsOf, AS.resC, AS.resCs, resCs_map, AS.resIV, AS.resArgs, AS.evParts, fillA, AS.fillRows, effCall, ivAV, ivAVs, avOf, acOf, A1.cells, C.flat, List.lookup, Fx.Holds, AS.behindRegion, AS.apps, thenA, inBlockA, InI64, splice, tab3, tab4, tab9, tab22, tab24, tab25, tab69, Dv.rows_length, dkids_c, eq_false hs0]
      refine ⟨by kernel_rfl, ?_⟩
      repeat (refine ⟨by first | assumption | omega, ?_⟩)
      refine hK2 _ ⟨?_, ?_, ?_⟩ <;> simp [AS.get, AS.obj, List.lookup, dd, List.filter_cons, List.filter_nil, tab3, tab4, tab9, tab22, tab24, tab25, tab69, dhead, Dv.rows_length, eq_false hs0]
      all_goals first | omega | (simp_all <;> omega)
  intro s2 hs2
  simp [AS.cut, AS.get, AS.obj, List.lookup, dd, List.filter_cons, List.filter_nil, tab3, tab4, tab9, tab22, tab24, tab25, tab69] at hs2
  subst hs2
  refine awp_cond rfl (fun hb_t36 => ?_) (fun hb_t36 => ?_)
  · try simp at hb_t36
    have hfin : (Dv.mk r i ks).right = false := by simp [Dv.right, hb_t36]
    refine awp_seq_k fun K3 hK3 => ?_
    refine awp_region' ([]) ?_
    simp [fxs, fxOf, dstOK, guardA, runOp, calleeOf, effOp, effBin, AS.ev, AS.get, AS.obj, AS.app, AS.ups, AS.put, AS.behind, AS.rowsOf, AS.resC, AS.resCs, resCs_map, AS.resIV, AS.resArgs, AS.evParts, fillA, AS.fillRows, effCall, ivAV, ivAVs, avOf, acOf, A1.cells, C.flat, List.lookup, Fx.Holds, AS.behindRegion, AS.apps, thenA, inBlockA, InI64, splice, tab3, tab4, tab9, tab22, tab24, tab25, tab69]
    repeat (refine ⟨by first | assumption | omega, ?_⟩)
    apply hK3
    try clear hK3 K3
    refine awp_ret ?_
    try simp only [thenA, inBlockA]
    rw [← hQ]
    refine ⟨by first | exact .inl rfl | exact .inr rfl, ?_⟩
    simp [AS.result, AS.resVars, AS.resVar, AS.ivOf, AS.ivsOf, AS.resC, AS.resCs, resCs_map, C.flat, AS.get, AS.obj, AS.ups, AS.put, List.lookup, res37, tab3, tab4, tab9, tab22, tab24, tab25, tab69, hfin]
  · try simp at hb_t36
    have hh := hb_t36
    simp only [dhead, Bool.and_eq_true, decide_eq_true_eq] at hh
    refine awp_skip ?_
    try simp only [thenA, inBlockA]
    apply hK1
    try clear hK1 K1
    refine awp_seq_k fun K4 hK4 => ?_
    refine awp_seq_k fun K5 hK5 => ?_
    refine awp_region' ([]) ?_
    simp [fxs, fxOf, dstOK, guardA, runOp, calleeOf, effOp, effBin, AS.ev, AS.get, AS.obj, AS.app, AS.ups, AS.put, AS.behind, AS.rowsOf, AS.resC, AS.resCs, resCs_map, AS.resIV, AS.resArgs, AS.evParts, fillA, AS.fillRows, effCall, ivAV, ivAVs, avOf, acOf, A1.cells, C.flat, List.lookup, Fx.Holds, AS.behindRegion, AS.apps, thenA, inBlockA, InI64, splice, tab3, tab4, tab9, tab22, tab24, tab25, tab69, Dv.rows_length]
    repeat (refine ⟨by first | assumption | omega, ?_⟩)
    apply hK5
    try clear hK5 K5
    refine awp_block ?_
    refine awp_round (A := Unit) (ks.length) (fun k a => Dv.rightL (ks.drop k) = Dv.rightL ks) [38, 39] (fun k a => [(40, iv k)]) (fun k a => []) (()) ?_ ?_ ?_ ?_
    · simp
    · refine ⟨?_, ?_, ?_⟩ <;> simp [AS.get, AS.obj, List.lookup, dd, List.filter_cons, List.filter_nil, tab3, tab4, tab9, tab22, tab24, tab25, tab69]
    · intro k a; simp [wfs, AV.wf, A1.wf, AC.wf, Ob.wf, Below', iv, bv, tab3, tab4, tab9, tab22, tab24, tab25, tab69]
    intro k a KL0 hk hI hKL0 sl hsl
    simp [AS.cut, AS.get, AS.obj, List.lookup, dd, List.filter_cons, List.filter_nil, tab3, tab4, tab9, tab22, tab24, tab25, tab69] at hsl
    subst hsl
    refine awp_seq_k fun K6 hK6 => ?_
    refine awp_region' ([]) ?_
    simp [fxs, fxOf, dstOK, guardA, runOp, calleeOf, effOp, effBin, AS.ev, AS.get, AS.obj, AS.app, AS.ups, AS.put, AS.behind, AS.rowsOf, AS.resC, AS.resCs, resCs_map, AS.resIV, AS.resArgs, AS.evParts, fillA, AS.fillRows, effCall, ivAV, ivAVs, avOf, acOf, A1.cells, C.flat, List.lookup, Fx.Holds, AS.behindRegion, AS.apps, thenA, inBlockA, InI64, splice, tab3, tab4, tab9, tab22, tab24, tab25, tab69]
    repeat (refine ⟨by first | assumption | omega, ?_⟩)
    apply hK6
    try clear hK6 K6
    refine awp_seq_k fun K7 hK7 => ?_
    refine awp_cond rfl (fun hb_t41 => ?_) (fun hb_t41 => ?_)
    · try simp at hb_t41
      have hlen := Dv.length_le ks
      have hrow := Dv.rows_get hb_t41
      have hcl := Dv.cells_length ks[k]
      have hmem : ks[k] ∈ ks := List.getElem_mem _
      have hdk := dkids_le r
      have hd := Dv.rightL_drop hb_t41
      have hc := ih ks[k] hmem
      refine awp_skip ?_
      try simp only [thenA, inBlockA]
      apply hK7
      try clear hK7 K7
      refine awp_seq_k fun K8 hK8 => ?_
      refine awp_block ?_
      refine awp_seq_k fun K9 hK9 => ?_
      refine awp_region' ([]) ?_
      simp [fxs, fxOf, dstOK, guardA, runOp, calleeOf, effOp, effBin, AS.ev, AS.get, AS.obj, AS.app, AS.ups, AS.put, AS.behind, AS.rowsOf, AS.resC, AS.resCs, resCs_map, AS.resIV, AS.resArgs, AS.evParts, fillA, AS.fillRows, effCall, ivAV, ivAVs, avOf, acOf, A1.cells, C.flat, List.lookup, Fx.Holds, AS.behindRegion, AS.apps, thenA, inBlockA, InI64, splice, tab3, tab4, tab9, tab22, tab24, tab25, tab69, Dv.rows_length, hrow, hcl]
      repeat (refine ⟨by first | assumption | omega, ?_⟩)
      apply hK9
      try clear hK9 K9
      refine awp_seq_k fun K10 hK10 => ?_
      refine awp_region' ([(1, .v (.one (.bool ks[k].right)), true)]) ?_
      simp [fxs, fxOf, dstOK, guardA, runOp, calleeOf, effOp, effBin, AS.ev, AS.get, AS.obj, AS.app, AS.ups, AS.put, AS.behind, AS.rowsOf, AS.resC, AS.resCs, resCs_map, AS.resIV, AS.resArgs, AS.evParts, fillA, AS.fillRows, effCall, ivAV, ivAVs, avOf, acOf, A1.cells, C.flat, List.lookup, Fx.Holds, AS.behindRegion, AS.apps, thenA, inBlockA, InI64, splice, tab3, tab4, tab9, tab22, tab24, tab25, tab69, hcl, hc]
      repeat (refine ⟨by first | assumption | omega, ?_⟩)
      apply hK10
      try clear hK10 K10
      refine awp_cond rfl (fun hb_t46 => ?_) (fun hb_t46 => ?_)
      · try simp at hb_t46
        rw [hd, hb_t46] at hI
        have hfin : (Dv.mk r i ks).right = false := by simp [Dv.right, ← hI]
        refine awp_seq_k fun K11 hK11 => ?_
        refine awp_region' ([]) ?_
        simp [fxs, fxOf, dstOK, guardA, runOp, calleeOf, effOp, effBin, AS.ev, AS.get, AS.obj, AS.app, AS.ups, AS.put, AS.behind, AS.rowsOf, AS.resC, AS.resCs, resCs_map, AS.resIV, AS.resArgs, AS.evParts, fillA, AS.fillRows, effCall, ivAV, ivAVs, avOf, acOf, A1.cells, C.flat, List.lookup, Fx.Holds, AS.behindRegion, AS.apps, thenA, inBlockA, InI64, splice, tab3, tab4, tab9, tab22, tab24, tab25, tab69]
        repeat (refine ⟨by first | assumption | omega, ?_⟩)
        apply hK11
        try clear hK11 K11
        refine awp_ret ?_
        try simp only [thenA, inBlockA]
        rw [← hQ]
        refine ⟨by first | exact .inl rfl | exact .inr rfl, ?_⟩
        simp [AS.result, AS.resVars, AS.resVar, AS.ivOf, AS.ivsOf, AS.resC, AS.resCs, resCs_map, C.flat, AS.get, AS.obj, AS.ups, AS.put, List.lookup, res37, tab3, tab4, tab9, tab22, tab24, tab25, tab69, hfin]
      · try simp at hb_t46
        refine awp_skip ?_
        try simp only [thenA, inBlockA]
        apply hK8
        try clear hK8 K8
        refine awp_region' ([]) ?_
        simp [fxs, fxOf, dstOK, guardA, runOp, calleeOf, effOp, effBin, AS.ev, AS.get, AS.obj, AS.app, AS.ups, AS.put, AS.behind, AS.rowsOf, AS.resC, AS.resCs, resCs_map, AS.resIV, AS.resArgs, AS.evParts, fillA, AS.fillRows, effCall, ivAV, ivAVs, avOf, acOf, A1.cells, C.flat, List.lookup, Fx.Holds, AS.behindRegion, AS.apps, thenA, inBlockA, InI64, splice, tab3, tab4, tab9, tab22, tab24, tab25, tab69]
        repeat (refine ⟨by first | assumption | omega, ?_⟩)
        refine hKL0 _ (()) (by omega) ?_ ?_
        · rw [hd] at hI; simp_all
        · refine ⟨?_, ?_, ?_⟩ <;> simp [AS.get, AS.obj, List.lookup, dd, List.filter_cons, List.filter_nil, tab3, tab4, tab9, tab22, tab24, tab25, tab69]
    · try simp at hb_t41
      have hk2 : k = ks.length := by omega
      subst hk2
      have hfin : (Dv.mk r i ks).right = true := by simp [Dv.right, hb_t36, ← hI, Dv.rightL]
      refine awp_exit ?_
      try simp only [thenA, inBlockA, if_true, if_false, reduceIte, Nat.reduceEqDiff]
      apply hK4
      try clear hK4 K4
      refine awp_seq_k fun K12 hK12 => ?_
      refine awp_region' ([]) ?_
      simp [fxs, fxOf, dstOK, guardA, runOp, calleeOf, effOp, effBin, AS.ev, AS.get, AS.obj, AS.app, AS.ups, AS.put, AS.behind, AS.rowsOf, AS.resC, AS.resCs, resCs_map, AS.resIV, AS.resArgs, AS.evParts, fillA, AS.fillRows, effCall, ivAV, ivAVs, avOf, acOf, A1.cells, C.flat, List.lookup, Fx.Holds, AS.behindRegion, AS.apps, thenA, inBlockA, InI64, splice, tab3, tab4, tab9, tab22, tab24, tab25, tab69]
      repeat (refine ⟨by first | assumption | omega, ?_⟩)
      apply hK12
      try clear hK12 K12
      refine awp_ret ?_
      try simp only [thenA, inBlockA]
      rw [← hQ]
      refine ⟨by first | exact .inl rfl | exact .inr rfl, ?_⟩
      simp [AS.result, AS.resVars, AS.resVar, AS.ivOf, AS.ivsOf, AS.resC, AS.resCs, resCs_map, C.flat, AS.get, AS.obj, AS.ups, AS.put, List.lookup, res37, tab3, tab4, tab9, tab22, tab24, tab25, tab69, hfin]
theorem right_c (d : Dv) : ACalls Try.prog 37 [.agg d.cells] (.v (.one (.bool d.right))) true := by
  induction d using Dv.ind with
  | h r i ks ih => exact right_c_step r i ks ih
theorem call38 : Callable Try.prog 38 := callable_of Try.func38 (by kernel_rfl) (by kernel_rfl)
theorem res38 : Try.f38.results.toList = [.tmp 2] := rfl
set_option maxHeartbeats 4000000 in
set_option maxRecDepth 100000 in
theorem right_r_step (r i : Int) (ks : List Dv) (ih : ∀ k ∈ ks, ACalls Try.prog 38 [.agg k.cells] (.v (.one (.bool k.right))) true) : ACalls Try.prog 38 [.agg (Dv.mk r i ks).cells] (RV.v (.one (.bool (Dv.mk r i ks).right))) true := by
  refine acalls_of_awp Try.func38 rfl call38 false (by rw [Try.ntmps38]; simp) fun w0 S => ?_
  rw [Try.ntmps38]
  generalize hQ : Done Try.prog false Try.f38.results.toList (RV.v (.one (.bool (Dv.mk r i ks).right))) true = Q
  simp only [start, startEnv, argAV, Nat.zero_add, Nat.reduceAdd, Dv.cells, List.map_cons, List.map_nil]
  refine awp_seq_k fun K0 hK0 => ?_
  refine awp_region' ([]) ?_
  simp [fxs, fxOf, dstOK, guardA, runOp, calleeOf, effOp, effBin, AS.ev, AS.get, AS.obj, AS.app, AS.ups, AS.put, AS.behind, AS.rowsOf, AS.resC, AS.resCs, resCs_map, AS.resIV, AS.resArgs, AS.evParts, fillA, AS.fillRows, effCall, ivAV, ivAVs, avOf, acOf, A1.cells, C.flat, List.lookup, Fx.Holds, AS.behindRegion, AS.apps, thenA, inBlockA, InI64, splice, tab3, tab4, tab9, tab22, tab24, tab25, tab69]
  repeat (refine ⟨by first | assumption | omega, ?_⟩)
  apply hK0
  try clear hK0 K0
  refine awp_seq_k fun K1 hK1 => ?_
  refine awp_cut [1] ([(37, bv (!dhead r i ks.length))]) ([]) ?_ ?_ ?_
  · simp [wfs, AV.wf, A1.wf, AC.wf, Ob.wf, Below', iv, bv, tab3, tab4, tab9, tab22, tab24, tab25, tab69]
  · intro K2 hK2
    by_cases hs0 : dkids r < 0
    · refine awp_region_draw' mixed ([(2, .v (.one (.int (dkids r))), true), (10, .v (.one (.int (dkids r))), true), (30, .v (.one (.bool (decide (r = 1) || decide (r = 2)))), true)]) ?_
      simp [fxs, fxOf, dstOK, guardA, runOp, calleeOf, effOp, effBin, AS.ev, AS.get, AS.obj, AS.app, AS.ups, AS.put, AS.behind, AS.rowsOf, AS.resC, AS.resCs, resCs_map, AS.resIV, AS.resArgs, AS.evParts, fillA, AS.fillRows, effCall, ivAV, ivAVs, avOf, acOf, A1.cells, C.flat, List.lookup, Fx.Holds, AS.behindRegion, AS.apps, thenA, inBlockA, InI64, splice, tab3, tab4, tab9, tab22, tab24, tab25, tab69, Dv.rows_length, dkids_r, dnumbered, eq_true hs0]
      refine ⟨by kernel_rfl, ?_⟩
      repeat (refine ⟨by first | assumption | omega, ?_⟩)
      refine hK2 _ ⟨?_, ?_, ?_⟩ <;> simp [AS.get, AS.obj, List.lookup, dd, List.filter_cons, List.filter_nil, tab3, tab4, tab9, tab22, tab24, tab25, tab69, dhead, Dv.rows_length, eq_true hs0]
      all_goals first | omega | (simp [show ¬ i = 0 by omega]; done) | (simp [show ¬ i = 0 by omega]; intro h0; omega) | (simp [show i = 0 by omega]; done)
    · by_cases hs1 : (ks.length : Int) = dkids r
      · by_cases hs2 : i < 0
        · refine awp_region_draw' mixed ([(2, .v (.one (.int (dkids r))), true), (10, .v (.one (.int (dkids r))), true), (30, .v (.one (.bool (decide (r = 1) || decide (r = 2)))), true)]) ?_
          simp [fxs, fxOf, dstOK, guardA, runOp, calleeOf, effOp, effBin, AS.ev, AS.get, AS.obj, AS.app, AS.ups, AS.put, AS.behind, AS.rowsOf, AS.resC, AS.resCs, resCs_map, AS.resIV, AS.resArgs, AS.evParts, fillA, AS.fillRows, effCall, ivAV, ivAVs, avOf, acOf, A1.cells, C.flat, List.lookup, Fx.Holds, AS.behindRegion, AS.apps, thenA, inBlockA, InI64, splice, tab3, tab4, tab9, tab22, tab24, tab25, tab69, Dv.rows_length, dkids_r, dnumbered, eq_false hs0, eq_true hs1, eq_true hs2]
          refine ⟨by kernel_rfl, ?_⟩
          repeat (refine ⟨by first | assumption | omega, ?_⟩)
          refine hK2 _ ⟨?_, ?_, ?_⟩ <;> simp [AS.get, AS.obj, List.lookup, dd, List.filter_cons, List.filter_nil, tab3, tab4, tab9, tab22, tab24, tab25, tab69, dhead, Dv.rows_length, eq_false hs0, eq_true hs1, eq_true hs2]
          all_goals first | omega | (simp [show ¬ i = 0 by omega]; done) | (simp [show ¬ i = 0 by omega]; intro h0; omega) | (simp [show i = 0 by omega]; done)
        · by_cases hs3 : 1000000 < i
          · refine awp_region_draw' mixed ([(2, .v (.one (.int (dkids r))), true), (10, .v (.one (.int (dkids r))), true), (30, .v (.one (.bool (decide (r = 1) || decide (r = 2)))), true)]) ?_
            simp [fxs, fxOf, dstOK, guardA, runOp, calleeOf, effOp, effBin, AS.ev, AS.get, AS.obj, AS.app, AS.ups, AS.put, AS.behind, AS.rowsOf, AS.resC, AS.resCs, resCs_map, AS.resIV, AS.resArgs, AS.evParts, fillA, AS.fillRows, effCall, ivAV, ivAVs, avOf, acOf, A1.cells, C.flat, List.lookup, Fx.Holds, AS.behindRegion, AS.apps, thenA, inBlockA, InI64, splice, tab3, tab4, tab9, tab22, tab24, tab25, tab69, Dv.rows_length, dkids_r, dnumbered, eq_false hs0, eq_true hs1, eq_false hs2, eq_true hs3]
            refine ⟨by kernel_rfl, ?_⟩
            repeat (refine ⟨by first | assumption | omega, ?_⟩)
            refine hK2 _ ⟨?_, ?_, ?_⟩ <;> simp [AS.get, AS.obj, List.lookup, dd, List.filter_cons, List.filter_nil, tab3, tab4, tab9, tab22, tab24, tab25, tab69, dhead, Dv.rows_length, eq_false hs0, eq_true hs1, eq_false hs2, eq_true hs3]
            all_goals first | omega | (simp [show ¬ i = 0 by omega]; done) | (simp [show ¬ i = 0 by omega]; intro h0; omega) | (simp [show i = 0 by omega]; done)
          · by_cases hs4 : 0 < i
            · refine awp_region_draw' mixed ([(2, .v (.one (.int (dkids r))), true), (10, .v (.one (.int (dkids r))), true), (30, .v (.one (.bool (decide (r = 1) || decide (r = 2)))), true)]) ?_
              simp [fxs, fxOf, dstOK, guardA, runOp, calleeOf, effOp, effBin, AS.ev, AS.get, AS.obj, AS.app, AS.ups, AS.put, AS.behind, AS.rowsOf, AS.resC, AS.resCs, resCs_map, AS.resIV, AS.resArgs, AS.evParts, fillA, AS.fillRows, effCall, ivAV, ivAVs, avOf, acOf, A1.cells, C.flat, List.lookup, Fx.Holds, AS.behindRegion, AS.apps, thenA, inBlockA, InI64, splice, tab3, tab4, tab9, tab22, tab24, tab25, tab69, Dv.rows_length, dkids_r, dnumbered, eq_false hs0, eq_true hs1, eq_false hs2, eq_false hs3, eq_true hs4]
              refine ⟨by kernel_rfl, ?_⟩
              repeat (refine ⟨by first | assumption | omega, ?_⟩)
              refine hK2 _ ⟨?_, ?_, ?_⟩ <;> simp [AS.get, AS.obj, List.lookup, dd, List.filter_cons, List.filter_nil, tab3, tab4, tab9, tab22, tab24, tab25, tab69, dhead, Dv.rows_length, eq_false hs0, eq_true hs1, eq_false hs2, eq_false hs3, eq_true hs4]
              all_goals first | omega | (simp [show ¬ i = 0 by omega]; done) | (simp [show ¬ i = 0 by omega]; intro h0; omega) | (simp [show i = 0 by omega]; done)
            · refine awp_region_draw' mixed ([(2, .v (.one (.int (dkids r))), true), (10, .v (.one (.int (dkids r))), true), (30, .v (.one (.bool (decide (r = 1) || decide (r = 2)))), true)]) ?_
              simp [fxs, fxOf, dstOK, guardA, runOp, calleeOf, effOp, effBin, AS.ev, AS.get, AS.obj, AS.app, AS.ups, AS.put, AS.behind, AS.rowsOf, AS.resC, AS.resCs, resCs_map, AS.resIV, AS.resArgs, AS.evParts, fillA, AS.fillRows, effCall, ivAV, ivAVs, avOf, acOf, A1.cells, C.flat, List.lookup, Fx.Holds, AS.behindRegion, AS.apps, thenA, inBlockA, InI64, splice, tab3, tab4, tab9, tab22, tab24, tab25, tab69, Dv.rows_length, dkids_r, dnumbered, eq_false hs0, eq_true hs1, eq_false hs2, eq_false hs3, eq_false hs4]
              refine ⟨by kernel_rfl, ?_⟩
              repeat (refine ⟨by first | assumption | omega, ?_⟩)
              refine hK2 _ ⟨?_, ?_, ?_⟩ <;> simp [AS.get, AS.obj, List.lookup, dd, List.filter_cons, List.filter_nil, tab3, tab4, tab9, tab22, tab24, tab25, tab69, dhead, Dv.rows_length, eq_false hs0, eq_true hs1, eq_false hs2, eq_false hs3, eq_false hs4]
              all_goals first | omega | (simp [show ¬ i = 0 by omega]; done) | (simp [show ¬ i = 0 by omega]; intro h0; omega) | (simp [show i = 0 by omega]; done)
      · refine awp_region_draw' mixed ([(2, .v (.one (.int (dkids r))), true), (10, .v (.one (.int (dkids r))), true), (30, .v (.one (.bool (decide (r = 1) || decide (r = 2)))), true)]) ?_
        simp [fxs, fxOf, dstOK, guardA, runOp, calleeOf, effOp, effBin, AS.ev, AS.get, AS.obj, AS.app, AS.ups, AS.put, AS.behind, AS.rowsOf, AS.resC, AS.resCs, resCs_map, AS.resIV, AS.resArgs, AS.evParts, fillA, AS.fillRows, effCall, ivAV, ivAVs, avOf, acOf, A1.cells, C.flat, List.lookup, Fx.Holds, AS.behindRegion, AS.apps, thenA, inBlockA, InI64, splice, tab3, tab4, tab9, tab22, tab24, tab25, tab69, Dv.rows_length, dkids_r, dnumbered, eq_false hs0, eq_false hs1]
        refine ⟨by kernel_rfl, ?_⟩
        repeat (refine ⟨by first | assumption | omega, ?_⟩)
        refine hK2 _ ⟨?_, ?_, ?_⟩ <;> simp [AS.get, AS.obj, List.lookup, dd, List.filter_cons, List.filter_nil, tab3, tab4, tab9, tab22, tab24, tab25, tab69, dhead, Dv.rows_length, eq_false hs0, eq_false hs1]
        all_goals first | omega | (simp [show ¬ i = 0 by omega]; done) | (simp [show ¬ i = 0 by omega]; intro h0; omega) | (simp [show i = 0 by omega]; done)
  intro s2 hs2
  simp [AS.cut, AS.get, AS.obj, List.lookup, dd, List.filter_cons, List.filter_nil, tab3, tab4, tab9, tab22, tab24, tab25, tab69] at hs2
  subst hs2
  refine awp_cond rfl (fun hb_t37 => ?_) (fun hb_t37 => ?_)
  · try simp at hb_t37
    have hfin : (Dv.mk r i ks).right = false := by simp [Dv.right, hb_t37]
    refine awp_seq_k fun K3 hK3 => ?_
    refine awp_region' ([]) ?_
    simp [fxs, fxOf, dstOK, guardA, runOp, calleeOf, effOp, effBin, AS.ev, AS.get, AS.obj, AS.app, AS.ups, AS.put, AS.behind, AS.rowsOf, AS.resC, AS.resCs, resCs_map, AS.resIV, AS.resArgs, AS.evParts, fillA, AS.fillRows, effCall, ivAV, ivAVs, avOf, acOf, A1.cells, C.flat, List.lookup, Fx.Holds, AS.behindRegion, AS.apps, thenA, inBlockA, InI64, splice, tab3, tab4, tab9, tab22, tab24, tab25, tab69]
    repeat (refine ⟨by first | assumption | omega, ?_⟩)
    apply hK3
    try clear hK3 K3
    refine awp_ret ?_
    try simp only [thenA, inBlockA]
    rw [← hQ]
    refine ⟨by first | exact .inl rfl | exact .inr rfl, ?_⟩
    simp [AS.result, AS.resVars, AS.resVar, AS.ivOf, AS.ivsOf, AS.resC, AS.resCs, resCs_map, C.flat, AS.get, AS.obj, AS.ups, AS.put, List.lookup, res38, tab3, tab4, tab9, tab22, tab24, tab25, tab69, hfin]
  · try simp at hb_t37
    have hh := hb_t37
    simp only [dhead, Bool.and_eq_true, decide_eq_true_eq] at hh
    refine awp_skip ?_
    try simp only [thenA, inBlockA]
    apply hK1
    try clear hK1 K1
    refine awp_seq_k fun K4 hK4 => ?_
    refine awp_seq_k fun K5 hK5 => ?_
    refine awp_region' ([]) ?_
    simp [fxs, fxOf, dstOK, guardA, runOp, calleeOf, effOp, effBin, AS.ev, AS.get, AS.obj, AS.app, AS.ups, AS.put, AS.behind, AS.rowsOf, AS.resC, AS.resCs, resCs_map, AS.resIV, AS.resArgs, AS.evParts, fillA, AS.fillRows, effCall, ivAV, ivAVs, avOf, acOf, A1.cells, C.flat, List.lookup, Fx.Holds, AS.behindRegion, AS.apps, thenA, inBlockA, InI64, splice, tab3, tab4, tab9, tab22, tab24, tab25, tab69]
    repeat (refine ⟨by first | assumption | omega, ?_⟩)
    apply hK5
    try clear hK5 K5
    refine awp_block ?_
    refine awp_round (A := Unit) (ks.length) (fun k a => Dv.rightL (ks.drop k) = Dv.rightL ks) [1] (fun k a => [(3, iv k)]) (fun k a => []) (()) ?_ ?_ ?_ ?_
    · simp
    · refine ⟨?_, ?_, ?_⟩ <;> simp [AS.get, AS.obj, List.lookup, dd, List.filter_cons, List.filter_nil, tab3, tab4, tab9, tab22, tab24, tab25, tab69]
    · intro k a; simp [wfs, AV.wf, A1.wf, AC.wf, Ob.wf, Below', iv, bv, tab3, tab4, tab9, tab22, tab24, tab25, tab69]
    intro k a KL0 hk hI hKL0 sl hsl
    simp [AS.cut, AS.get, AS.obj, List.lookup, dd, List.filter_cons, List.filter_nil, tab3, tab4, tab9, tab22, tab24, tab25, tab69] at hsl
    subst hsl
    refine awp_seq_k fun K6 hK6 => ?_
    refine awp_seq_k fun K7 hK7 => ?_
    refine awp_region' ([]) ?_
    simp [fxs, fxOf, dstOK, guardA, runOp, calleeOf, effOp, effBin, AS.ev, AS.get, AS.obj, AS.app, AS.ups, AS.put, AS.behind, AS.rowsOf, AS.resC, AS.resCs, resCs_map, AS.resIV, AS.resArgs, AS.evParts, fillA, AS.fillRows, effCall, ivAV, ivAVs, avOf, acOf, A1.cells, C.flat, List.lookup, Fx.Holds, AS.behindRegion, AS.apps, thenA, inBlockA, InI64, splice, tab3, tab4, tab9, tab22, tab24, tab25, tab69, Dv.rows_length]
    repeat (refine ⟨by first | assumption | omega, ?_⟩)
    apply hK7
    try clear hK7 K7
    refine awp_cond rfl (fun hb_t42 => ?_) (fun hb_t42 => ?_)
    · try simp at hb_t42
      have hlen := Dv.length_le ks
      have hrow := Dv.rows_get hb_t42
      have hcl := Dv.cells_length ks[k]
      have hmem : ks[k] ∈ ks := List.getElem_mem _
      have hdk := dkids_le r
      have hd := Dv.rightL_drop hb_t42
      have hc := ih ks[k] hmem
      refine awp_skip ?_
      try simp only [thenA, inBlockA]
      apply hK6
      try clear hK6 K6
      refine awp_seq_k fun K8 hK8 => ?_
      refine awp_block ?_
      refine awp_seq_k fun K9 hK9 => ?_
      refine awp_region' ([(5, .v (.one (.bool ks[k].right)), true)]) ?_
      simp [fxs, fxOf, dstOK, guardA, runOp, calleeOf, effOp, effBin, AS.ev, AS.get, AS.obj, AS.app, AS.ups, AS.put, AS.behind, AS.rowsOf, AS.resC, AS.resCs, resCs_map, AS.resIV, AS.resArgs, AS.evParts, fillA, AS.fillRows, effCall, ivAV, ivAVs, avOf, acOf, A1.cells, C.flat, List.lookup, Fx.Holds, AS.behindRegion, AS.apps, thenA, inBlockA, InI64, splice, tab3, tab4, tab9, tab22, tab24, tab25, tab69, Dv.rows_length, hrow, hcl, hc]
      repeat (refine ⟨by first | assumption | omega, ?_⟩)
      apply hK9
      try clear hK9 K9
      refine awp_cond rfl (fun hb_t51 => ?_) (fun hb_t51 => ?_)
      · try simp at hb_t51
        rw [hd, hb_t51] at hI
        have hfin : (Dv.mk r i ks).right = false := by simp [Dv.right, ← hI]
        refine awp_seq_k fun K10 hK10 => ?_
        refine awp_region' ([]) ?_
        simp [fxs, fxOf, dstOK, guardA, runOp, calleeOf, effOp, effBin, AS.ev, AS.get, AS.obj, AS.app, AS.ups, AS.put, AS.behind, AS.rowsOf, AS.resC, AS.resCs, resCs_map, AS.resIV, AS.resArgs, AS.evParts, fillA, AS.fillRows, effCall, ivAV, ivAVs, avOf, acOf, A1.cells, C.flat, List.lookup, Fx.Holds, AS.behindRegion, AS.apps, thenA, inBlockA, InI64, splice, tab3, tab4, tab9, tab22, tab24, tab25, tab69]
        repeat (refine ⟨by first | assumption | omega, ?_⟩)
        apply hK10
        try clear hK10 K10
        refine awp_ret ?_
        try simp only [thenA, inBlockA]
        rw [← hQ]
        refine ⟨by first | exact .inl rfl | exact .inr rfl, ?_⟩
        simp [AS.result, AS.resVars, AS.resVar, AS.ivOf, AS.ivsOf, AS.resC, AS.resCs, resCs_map, C.flat, AS.get, AS.obj, AS.ups, AS.put, List.lookup, res38, tab3, tab4, tab9, tab22, tab24, tab25, tab69, hfin]
      · try simp at hb_t51
        refine awp_skip ?_
        try simp only [thenA, inBlockA]
        apply hK8
        try clear hK8 K8
        refine awp_region' ([]) ?_
        simp [fxs, fxOf, dstOK, guardA, runOp, calleeOf, effOp, effBin, AS.ev, AS.get, AS.obj, AS.app, AS.ups, AS.put, AS.behind, AS.rowsOf, AS.resC, AS.resCs, resCs_map, AS.resIV, AS.resArgs, AS.evParts, fillA, AS.fillRows, effCall, ivAV, ivAVs, avOf, acOf, A1.cells, C.flat, List.lookup, Fx.Holds, AS.behindRegion, AS.apps, thenA, inBlockA, InI64, splice, tab3, tab4, tab9, tab22, tab24, tab25, tab69]
        repeat (refine ⟨by first | assumption | omega, ?_⟩)
        refine hKL0 _ (()) (by omega) ?_ ?_
        · rw [hd] at hI; simp_all
        · refine ⟨?_, ?_, ?_⟩ <;> simp [AS.get, AS.obj, List.lookup, dd, List.filter_cons, List.filter_nil, tab3, tab4, tab9, tab22, tab24, tab25, tab69]
    · try simp at hb_t42
      have hk2 : k = ks.length := by omega
      subst hk2
      have hfin : (Dv.mk r i ks).right = true := by simp [Dv.right, hb_t37, ← hI, Dv.rightL]
      refine awp_exit ?_
      try simp only [thenA, inBlockA, if_true, if_false, reduceIte, Nat.reduceEqDiff]
      apply hK4
      try clear hK4 K4
      refine awp_seq_k fun K11 hK11 => ?_
      refine awp_region' ([]) ?_
      simp [fxs, fxOf, dstOK, guardA, runOp, calleeOf, effOp, effBin, AS.ev, AS.get, AS.obj, AS.app, AS.ups, AS.put, AS.behind, AS.rowsOf, AS.resC, AS.resCs, resCs_map, AS.resIV, AS.resArgs, AS.evParts, fillA, AS.fillRows, effCall, ivAV, ivAVs, avOf, acOf, A1.cells, C.flat, List.lookup, Fx.Holds, AS.behindRegion, AS.apps, thenA, inBlockA, InI64, splice, tab3, tab4, tab9, tab22, tab24, tab25, tab69]
      repeat (refine ⟨by first | assumption | omega, ?_⟩)
      apply hK11
      try clear hK11 K11
      refine awp_ret ?_
      try simp only [thenA, inBlockA]
      rw [← hQ]
      refine ⟨by first | exact .inl rfl | exact .inr rfl, ?_⟩
      simp [AS.result, AS.resVars, AS.resVar, AS.ivOf, AS.ivsOf, AS.resC, AS.resCs, resCs_map, C.flat, AS.get, AS.obj, AS.ups, AS.put, List.lookup, res38, tab3, tab4, tab9, tab22, tab24, tab25, tab69, hfin]
theorem right_r (d : Dv) : ACalls Try.prog 38 [.agg d.cells] (.v (.one (.bool d.right))) true := by
  induction d using Dv.ind with
  | h r i ks ih => exact right_r_step r i ks ih
theorem call55 : Callable Try.prog 55 := callable_of Try.func55 (by kernel_rfl) (by kernel_rfl)
theorem res55 : Try.f55.results.toList = [.tmp 4] := rfl
set_option maxHeartbeats 4000000 in
set_option maxRecDepth 100000 in
theorem same_c_step (r i : Int) (ks : List Dv) (r' i' : Int) (ks' : List Dv) (hb : (Dv.mk r i ks).nodes < 4611686018427387904) (ih : ∀ k ∈ ks, k.nodes < 4611686018427387904 → ∀ b : Dv, ACalls Try.prog 55 [.agg k.cells, .agg b.cells] (.v (.one (.bool (k.same b)))) true) : ACalls Try.prog 55 [(IV.agg (Dv.mk r i ks).cells), (.agg (Dv.mk r' i' ks').cells)] (RV.v (.one (.bool ((Dv.mk r i ks).same (Dv.mk r' i' ks'))))) true := by
  simp only [Dv.nodes] at hb
  refine acalls_of_awp Try.func55 rfl call55 false (by rw [Try.ntmps55]; simp) fun w0 S => ?_
  rw [Try.ntmps55]
  generalize hQ : Done Try.prog false Try.f55.results.toList (RV.v (.one (.bool ((Dv.mk r i ks).same (Dv.mk r' i' ks'))))) true = Q
  simp only [start, startEnv, argAV, Nat.zero_add, Nat.reduceAdd, Dv.cells, List.map_cons, List.map_nil]
  refine awp_seq_k fun K0 hK0 => ?_
  refine awp_region' ([]) ?_
  simp [fxs, fxOf, dstOK, guardA, runOp, calleeOf, effOp, effBin, AS.ev, AS.get, AS.obj, AS.app, AS.ups, AS.put, AS.behind, AS.rowsOf, AS.resC, AS.resCs, resCs_map, AS.resIV, AS.resArgs, AS.evParts, fillA, AS.fillRows, effCall, ivAV, ivAVs, avOf, acOf, A1.cells, C.flat, List.lookup, Fx.Holds, AS.behindRegion, AS.apps, thenA, inBlockA, InI64, splice, tab3, tab4, tab9, tab22, tab24, tab25, tab69]
  repeat (refine ⟨by first | assumption | omega, ?_⟩)
  apply hK0
  try clear hK0 K0
  refine awp_seq_k fun K1 hK1 => ?_
  refine awp_cut [2, 3] ([(26, bv (!(decide (r = r') && decide (i = i') && decide (ks.length = ks'.length))))]) ([]) ?_ ?_ ?_
  · simp [wfs, AV.wf, A1.wf, AC.wf, Ob.wf, Below', iv, bv, tab3, tab4, tab9, tab22, tab24, tab25, tab69]
  · intro K2 hK2
    by_cases hs0 : r = r'
    · by_cases hs1 : i = i'
      · refine awp_region' ([]) ?_
        simp [fxs, fxOf, dstOK, guardA, runOp, calleeOf, effOp, effBin, AS.ev, AS.get, AS.obj, AS.app, AS.ups, AS.put, AS.behind, AS.rowsOf, AS.resC, AS.resCs, resCs_map, AS.resIV, AS.resArgs, AS.evParts, fillA, AS.fillRows, effCall, ivAV, ivAVs, avOf, acOf, A1.cells, C.flat, List.lookup, Fx.Holds, AS.behindRegion, AS.apps, thenA, inBlockA, InI64, splice, tab3, tab4, tab9, tab22, tab24, tab25, tab69, Dv.rows_length, eq_true hs0, eq_true hs1]
        repeat (refine ⟨by first | assumption | omega, ?_⟩)
        refine hK2 _ ⟨?_, ?_, ?_⟩ <;> simp [AS.get, AS.obj, List.lookup, dd, List.filter_cons, List.filter_nil, tab3, tab4, tab9, tab22, tab24, tab25, tab69, Dv.rows_length, eq_true hs0, eq_true hs1]
        all_goals first | omega | (simp_all <;> omega)
      · refine awp_region' ([]) ?_
        simp [fxs, fxOf, dstOK, guardA, runOp, calleeOf, effOp, effBin, AS.ev, AS.get, AS.obj, AS.app, AS.ups, AS.put, AS.behind, AS.rowsOf, AS.resC, AS.resCs, resCs_map, AS.resIV, AS.resArgs, AS.evParts, fillA, AS.fillRows, effCall, ivAV, ivAVs, avOf, acOf, A1.cells, C.flat, List.lookup, Fx.Holds, AS.behindRegion, AS.apps, thenA, inBlockA, InI64, splice, tab3, tab4, tab9, tab22, tab24, tab25, tab69, Dv.rows_length, eq_true hs0, eq_false hs1]
        repeat (refine ⟨by first | assumption | omega, ?_⟩)
        refine hK2 _ ⟨?_, ?_, ?_⟩ <;> simp [AS.get, AS.obj, List.lookup, dd, List.filter_cons, List.filter_nil, tab3, tab4, tab9, tab22, tab24, tab25, tab69, Dv.rows_length, eq_true hs0, eq_false hs1]
        all_goals first | omega | (simp_all <;> omega)
    · refine awp_region' ([]) ?_
      simp [fxs, fxOf, dstOK, guardA, runOp, calleeOf, effOp, effBin, AS.ev, AS.get, AS.obj, AS.app, AS.ups, AS.put, AS.behind, AS.rowsOf, AS.resC, AS.resCs, resCs_map, AS.resIV, AS.resArgs, AS.evParts, fillA, AS.fillRows, effCall, ivAV, ivAVs, avOf, acOf, A1.cells, C.flat, List.lookup, Fx.Holds, AS.behindRegion, AS.apps, thenA, inBlockA, InI64, splice, tab3, tab4, tab9, tab22, tab24, tab25, tab69, Dv.rows_length, eq_false hs0]
      repeat (refine ⟨by first | assumption | omega, ?_⟩)
      refine hK2 _ ⟨?_, ?_, ?_⟩ <;> simp [AS.get, AS.obj, List.lookup, dd, List.filter_cons, List.filter_nil, tab3, tab4, tab9, tab22, tab24, tab25, tab69, Dv.rows_length, eq_false hs0]
      all_goals first | omega | (simp_all <;> omega)
  intro s2 hs2
  simp [AS.cut, AS.get, AS.obj, List.lookup, dd, List.filter_cons, List.filter_nil, tab3, tab4, tab9, tab22, tab24, tab25, tab69] at hs2
  subst hs2
  refine awp_cond rfl (fun hb_t26 => ?_) (fun hb_t26 => ?_)
  · try simp at hb_t26
    have hfin := Dv.same_ne hb_t26
    refine awp_seq_k fun K3 hK3 => ?_
    refine awp_region' ([]) ?_
    simp [fxs, fxOf, dstOK, guardA, runOp, calleeOf, effOp, effBin, AS.ev, AS.get, AS.obj, AS.app, AS.ups, AS.put, AS.behind, AS.rowsOf, AS.resC, AS.resCs, resCs_map, AS.resIV, AS.resArgs, AS.evParts, fillA, AS.fillRows, effCall, ivAV, ivAVs, avOf, acOf, A1.cells, C.flat, List.lookup, Fx.Holds, AS.behindRegion, AS.apps, thenA, inBlockA, InI64, splice, tab3, tab4, tab9, tab22, tab24, tab25, tab69]
    repeat (refine ⟨by first | assumption | omega, ?_⟩)
    apply hK3
    try clear hK3 K3
    refine awp_ret ?_
    try simp only [thenA, inBlockA]
    rw [← hQ]
    refine ⟨by first | exact .inl rfl | exact .inr rfl, ?_⟩
    simp [AS.result, AS.resVars, AS.resVar, AS.ivOf, AS.ivsOf, AS.resC, AS.resCs, resCs_map, C.flat, AS.get, AS.obj, AS.ups, AS.put, List.lookup, res55, tab3, tab4, tab9, tab22, tab24, tab25, tab69, hfin]
  · try simp at hb_t26
    obtain ⟨⟨e1, e2⟩, hls⟩ := hb_t26
    refine awp_skip ?_
    try simp only [thenA, inBlockA]
    apply hK1
    try clear hK1 K1
    refine awp_seq_k fun K4 hK4 => ?_
    refine awp_seq_k fun K5 hK5 => ?_
    refine awp_region' ([]) ?_
    simp [fxs, fxOf, dstOK, guardA, runOp, calleeOf, effOp, effBin, AS.ev, AS.get, AS.obj, AS.app, AS.ups, AS.put, AS.behind, AS.rowsOf, AS.resC, AS.resCs, resCs_map, AS.resIV, AS.resArgs, AS.evParts, fillA, AS.fillRows, effCall, ivAV, ivAVs, avOf, acOf, A1.cells, C.flat, List.lookup, Fx.Holds, AS.behindRegion, AS.apps, thenA, inBlockA, InI64, splice, tab3, tab4, tab9, tab22, tab24, tab25, tab69, Dv.rows_length]
    repeat (refine ⟨by first | assumption | omega, ?_⟩)
    apply hK5
    try clear hK5 K5
    refine awp_block ?_
    refine awp_round (A := Unit) (ks.length) (fun k a => Dv.sames (ks.drop k) (ks'.drop k) = Dv.sames ks ks') [2, 3, 29] (fun k a => [(30, iv k)]) (fun k a => []) (()) ?_ ?_ ?_ ?_
    · simp
    · refine ⟨?_, ?_, ?_⟩ <;> simp [AS.get, AS.obj, List.lookup, dd, List.filter_cons, List.filter_nil, tab3, tab4, tab9, tab22, tab24, tab25, tab69]
    · intro k a; simp [wfs, AV.wf, A1.wf, AC.wf, Ob.wf, Below', iv, bv, tab3, tab4, tab9, tab22, tab24, tab25, tab69]
    intro k a KL0 hk hI hKL0 sl hsl
    simp [AS.cut, AS.get, AS.obj, List.lookup, dd, List.filter_cons, List.filter_nil, tab3, tab4, tab9, tab22, tab24, tab25, tab69] at hsl
    subst hsl
    refine awp_seq_k fun K6 hK6 => ?_
    refine awp_region' ([]) ?_
    simp [fxs, fxOf, dstOK, guardA, runOp, calleeOf, effOp, effBin, AS.ev, AS.get, AS.obj, AS.app, AS.ups, AS.put, AS.behind, AS.rowsOf, AS.resC, AS.resCs, resCs_map, AS.resIV, AS.resArgs, AS.evParts, fillA, AS.fillRows, effCall, ivAV, ivAVs, avOf, acOf, A1.cells, C.flat, List.lookup, Fx.Holds, AS.behindRegion, AS.apps, thenA, inBlockA, InI64, splice, tab3, tab4, tab9, tab22, tab24, tab25, tab69]
    repeat (refine ⟨by first | assumption | omega, ?_⟩)
    apply hK6
    try clear hK6 K6
    refine awp_seq_k fun K7 hK7 => ?_
    refine awp_cond rfl (fun hb_t31 => ?_) (fun hb_t31 => ?_)
    · try simp at hb_t31
      have hlen := Dv.length_le ks
      have hrow := Dv.rows_get hb_t31
      have hcl := Dv.cells_length ks[k]
      have hmem : ks[k] ∈ ks := List.getElem_mem _
      have hb2 : k < ks'.length := by omega
      have hrow' := Dv.rows_get hb2
      have hcl' := Dv.cells_length ks'[k]
      have hd := Dv.sames_drop hb_t31 hb2
      have hm := Dv.nodes_mem hmem
      have hc := ih ks[k] hmem (by omega) ks'[k]
      refine awp_skip ?_
      try simp only [thenA, inBlockA]
      apply hK7
      try clear hK7 K7
      refine awp_seq_k fun K8 hK8 => ?_
      refine awp_block ?_
      refine awp_seq_k fun K9 hK9 => ?_
      refine awp_region' ([]) ?_
      simp [fxs, fxOf, dstOK, guardA, runOp, calleeOf, effOp, effBin, AS.ev, AS.get, AS.obj, AS.app, AS.ups, AS.put, AS.behind, AS.rowsOf, AS.resC, AS.resCs, resCs_map, AS.resIV, AS.resArgs, AS.evParts, fillA, AS.fillRows, effCall, ivAV, ivAVs, avOf, acOf, A1.cells, C.flat, List.lookup, Fx.Holds, AS.behindRegion, AS.apps, thenA, inBlockA, InI64, splice, tab3, tab4, tab9, tab22, tab24, tab25, tab69]
      repeat (refine ⟨by first | assumption | omega, ?_⟩)
      apply hK9
      try clear hK9 K9
      refine awp_seq_k fun K10 hK10 => ?_
      refine awp_region_draw' mixed ([(10, .v (.one (.bool (ks[k].same ks'[k]))), true)]) ?_
      simp [fxs, fxOf, dstOK, guardA, runOp, calleeOf, effOp, effBin, AS.ev, AS.get, AS.obj, AS.app, AS.ups, AS.put, AS.behind, AS.rowsOf, AS.resC, AS.resCs, resCs_map, AS.resIV, AS.resArgs, AS.evParts, fillA, AS.fillRows, effCall, ivAV, ivAVs, avOf, acOf, A1.cells, C.flat, List.lookup, Fx.Holds, AS.behindRegion, AS.apps, thenA, inBlockA, InI64, splice, tab3, tab4, tab9, tab22, tab24, tab25, tab69, Dv.rows_length, hrow, hcl, hrow', hcl', hc, ← hls]
      refine ⟨by kernel_rfl, ?_⟩
      repeat (refine ⟨by first | assumption | omega, ?_⟩)
      apply hK10
      try clear hK10 K10
      refine awp_cond rfl (fun hb_t44 => ?_) (fun hb_t44 => ?_)
      · try simp at hb_t44
        rw [hd, hb_t44] at hI
        have hfin : (Dv.mk r i ks).same (Dv.mk r' i' ks') = false := by simp [Dv.same, ← hI]
        refine awp_seq_k fun K11 hK11 => ?_
        refine awp_region' ([]) ?_
        simp [fxs, fxOf, dstOK, guardA, runOp, calleeOf, effOp, effBin, AS.ev, AS.get, AS.obj, AS.app, AS.ups, AS.put, AS.behind, AS.rowsOf, AS.resC, AS.resCs, resCs_map, AS.resIV, AS.resArgs, AS.evParts, fillA, AS.fillRows, effCall, ivAV, ivAVs, avOf, acOf, A1.cells, C.flat, List.lookup, Fx.Holds, AS.behindRegion, AS.apps, thenA, inBlockA, InI64, splice, tab3, tab4, tab9, tab22, tab24, tab25, tab69]
        repeat (refine ⟨by first | assumption | omega, ?_⟩)
        apply hK11
        try clear hK11 K11
        refine awp_ret ?_
        try simp only [thenA, inBlockA]
        rw [← hQ]
        refine ⟨by first | exact .inl rfl | exact .inr rfl, ?_⟩
        simp [AS.result, AS.resVars, AS.resVar, AS.ivOf, AS.ivsOf, AS.resC, AS.resCs, resCs_map, C.flat, AS.get, AS.obj, AS.ups, AS.put, List.lookup, res55, tab3, tab4, tab9, tab22, tab24, tab25, tab69, hfin]
      · try simp at hb_t44
        refine awp_skip ?_
        try simp only [thenA, inBlockA]
        apply hK8
        try clear hK8 K8
        refine awp_region' ([]) ?_
        simp [fxs, fxOf, dstOK, guardA, runOp, calleeOf, effOp, effBin, AS.ev, AS.get, AS.obj, AS.app, AS.ups, AS.put, AS.behind, AS.rowsOf, AS.resC, AS.resCs, resCs_map, AS.resIV, AS.resArgs, AS.evParts, fillA, AS.fillRows, effCall, ivAV, ivAVs, avOf, acOf, A1.cells, C.flat, List.lookup, Fx.Holds, AS.behindRegion, AS.apps, thenA, inBlockA, InI64, splice, tab3, tab4, tab9, tab22, tab24, tab25, tab69]
        repeat (refine ⟨by first | assumption | omega, ?_⟩)
        refine hKL0 _ (()) (by omega) ?_ ?_
        · rw [hd] at hI; simp_all
        · refine ⟨?_, ?_, ?_⟩ <;> simp [AS.get, AS.obj, List.lookup, dd, List.filter_cons, List.filter_nil, tab3, tab4, tab9, tab22, tab24, tab25, tab69]
    · try simp at hb_t31
      have hk2 : k = ks.length := by omega
      subst hk2
      have hfin : (Dv.mk r i ks).same (Dv.mk r' i' ks') = true := by rw [Dv.same, ← hI, List.drop_length, List.drop_of_length_le (by omega)]; simp [Dv.sames, e1, e2]
      refine awp_exit ?_
      try simp only [thenA, inBlockA, if_true, if_false, reduceIte, Nat.reduceEqDiff]
      apply hK4
      try clear hK4 K4
      refine awp_seq_k fun K12 hK12 => ?_
      refine awp_region' ([]) ?_
      simp [fxs, fxOf, dstOK, guardA, runOp, calleeOf, effOp, effBin, AS.ev, AS.get, AS.obj, AS.app, AS.ups, AS.put, AS.behind, AS.rowsOf, AS.resC, AS.resCs, resCs_map, AS.resIV, AS.resArgs, AS.evParts, fillA, AS.fillRows, effCall, ivAV, ivAVs, avOf, acOf, A1.cells, C.flat, List.lookup, Fx.Holds, AS.behindRegion, AS.apps, thenA, inBlockA, InI64, splice, tab3, tab4, tab9, tab22, tab24, tab25, tab69]
      repeat (refine ⟨by first | assumption | omega, ?_⟩)
      apply hK12
      try clear hK12 K12
      refine awp_ret ?_
      try simp only [thenA, inBlockA]
      rw [← hQ]
      refine ⟨by first | exact .inl rfl | exact .inr rfl, ?_⟩
      simp [AS.result, AS.resVars, AS.resVar, AS.ivOf, AS.ivsOf, AS.resC, AS.resCs, resCs_map, C.flat, AS.get, AS.obj, AS.ups, AS.put, List.lookup, res55, tab3, tab4, tab9, tab22, tab24, tab25, tab69, hfin]
theorem same_c (a : Dv) (ha : a.nodes < 4611686018427387904) (b : Dv) : ACalls Try.prog 55 [.agg a.cells, .agg b.cells] (.v (.one (.bool (a.same b)))) true := by
  revert ha b
  induction a using Dv.ind with
  | h r i ks ih => intro ha b; cases b; exact same_c_step _ _ _ _ _ _ ha ih
end Go.Proofs.Yteaglcbnkephgaa

namespace Go.Proofs.Yteaglcbnkephgaa
open Go Go.RowKit
mutual
theorem Dv.weigh_bound : ∀ (d : Dv) (most deep : Int), 0 ≤ most → 1 ≤ d.weigh most deep ∧ d.weigh most deep ≤ most + 1
  | .mk r i ks, most, deep, h => by
    simp only [Dv.weigh]
    split
    · omega
    · have := Dv.weighL_bound ks most deep 1 h (by omega) (by omega)
      omega
theorem Dv.weighL_bound : ∀ (ks : List Dv) (most deep n : Int), 0 ≤ most → 1 ≤ n → n ≤ most + 1 → n ≤ Dv.weighL ks most deep n ∧ Dv.weighL ks most deep n ≤ most + 1
  | [], most, deep, n, h, h1, h2 => by simp only [Dv.weighL]; omega
  | k :: ks, most, deep, n, h, h1, h2 => by
    simp only [Dv.weighL]
    split
    · have := Dv.weigh_bound k (most - n) (deep - 1) (by omega)
      have := Dv.weighL_bound ks most deep (n + k.weigh (most - n) (deep - 1)) h (by omega) (by omega)
      omega
    · omega
end
mutual
theorem Dv.weigh_nodes : ∀ (d : Dv) (most deep : Int), 0 ≤ most → -1 ≤ deep → d.weigh most deep ≤ most → (d.nodes : Int) = d.weigh most deep ∧ (d.deep : Int) ≤ deep + 1
  | .mk r i ks, most, deep, h, hd, hw => by
    simp only [Dv.weigh] at hw ⊢
    split at hw
    · omega
    · rename_i hn
      rw [if_neg hn]
      have := Dv.weighL_nodes ks most deep 1 h (by omega) (by omega) hw
      simp only [Dv.nodes, Dv.deep]
      omega
theorem Dv.weighL_nodes : ∀ (ks : List Dv) (most deep n : Int), 0 ≤ most → 0 ≤ deep → 1 ≤ n → Dv.weighL ks most deep n ≤ most → Dv.weighL ks most deep n = n + (Dv.nodesL ks : Int) ∧ (Dv.deepL ks : Int) ≤ deep
  | [], most, deep, n, h, hd, h1, hw => by simp only [Dv.weighL, Dv.nodesL, Dv.deepL]; omega
  | k :: ks, most, deep, n, h, hd, h1, hw => by
    simp only [Dv.weighL] at hw ⊢
    split at hw
    · rename_i hn
      rw [if_pos hn]
      have b := Dv.weigh_bound k (most - n) (deep - 1) (by omega)
      have e := Dv.weighL_nodes ks most deep (n + k.weigh (most - n) (deep - 1)) h hd (by omega) hw
      have c := Dv.weigh_nodes k (most - n) (deep - 1) (by omega) (by omega) (by omega)
      simp only [Dv.nodesL, Dv.deepL]
      omega
    · omega
end
theorem Dv.great_nodes {d : Dv} {most : Int} (h0 : 0 ≤ most) (h : ¬ most < d.weigh most 200) : (d.nodes : Int) ≤ most ∧ d.deep ≤ 201 := by
  have := Dv.weigh_nodes d most 200 h0 (by omega) (by omega)
  omega
theorem call108 : Callable Try.prog 108 := callable_of Try.func108 (by kernel_rfl) (by kernel_rfl)
theorem res108 : Try.f108.results.toList = [.tmp 4] := rfl
set_option maxHeartbeats 4000000 in
set_option maxRecDepth 100000 in
theorem derivs_step (xs bs : List Dv) (hb : xs.length < 4611686018427387904) (ih : ∀ k ∈ xs, ∀ b : Dv, ACalls Try.prog 43 [.agg k.cells, .agg b.cells] (.v (.one (.bool (k.same b)))) true) : ACalls Try.prog 108 [IV.one (.slice (Dv.rows xs)), .one (.slice (Dv.rows bs))] (RV.v (.one (.bool (Dv.sames xs bs)))) true := by
  refine acalls_of_awp Try.func108 rfl call108 false (by rw [Try.ntmps108]; simp) fun w0 S => ?_
  rw [Try.ntmps108]
  generalize hQ : Done Try.prog false Try.f108.results.toList (RV.v (.one (.bool (Dv.sames xs bs)))) true = Q
  simp only [start, startEnv, argAV, Nat.zero_add, Nat.reduceAdd]
  refine awp_seq_k fun K0 hK0 => ?_
  refine awp_region' ([]) ?_
  simp [fxs, fxOf, dstOK, guardA, runOp, calleeOf, effOp, effBin, AS.ev, AS.get, AS.obj, AS.app, AS.ups, AS.put, AS.behind, AS.rowsOf, AS.resC, AS.resCs, resCs_map, AS.resIV, AS.resArgs, AS.evParts, fillA, AS.fillRows, effCall, ivAV, ivAVs, avOf, acOf, A1.cells, C.flat, List.lookup, Fx.Holds, AS.behindRegion, AS.apps, thenA, inBlockA, InI64, splice, tab3, tab4, tab9, tab22, tab24, tab25, tab69]
  repeat (refine ⟨by first | assumption | omega, ?_⟩)
  apply hK0
  try clear hK0 K0
  refine awp_seq_k fun K1 hK1 => ?_
  refine awp_seq_k fun K2 hK2 => ?_
  refine awp_region' ([]) ?_
  simp [fxs, fxOf, dstOK, guardA, runOp, calleeOf, effOp, effBin, AS.ev, AS.get, AS.obj, AS.app, AS.ups, AS.put, AS.behind, AS.rowsOf, AS.resC, AS.resCs, resCs_map, AS.resIV, AS.resArgs, AS.evParts, fillA, AS.fillRows, effCall, ivAV, ivAVs, avOf, acOf, A1.cells, C.flat, List.lookup, Fx.Holds, AS.behindRegion, AS.apps, thenA, inBlockA, InI64, splice, tab3, tab4, tab9, tab22, tab24, tab25, tab69, Dv.rows_length]
  repeat (refine ⟨by first | assumption | omega, ?_⟩)
  apply hK2
  try clear hK2 K2
  refine awp_cond rfl (fun hb_t10 => ?_) (fun hb_t10 => ?_)
  · try simp at hb_t10
    have hfin : Dv.sames xs bs = false := by
      cases hs : Dv.sames xs bs with
      | true => exact absurd (Dv.sames_length hs) (by omega)
      | false => rfl
    refine awp_seq_k fun K3 hK3 => ?_
    refine awp_region' ([]) ?_
    simp [fxs, fxOf, dstOK, guardA, runOp, calleeOf, effOp, effBin, AS.ev, AS.get, AS.obj, AS.app, AS.ups, AS.put, AS.behind, AS.rowsOf, AS.resC, AS.resCs, resCs_map, AS.resIV, AS.resArgs, AS.evParts, fillA, AS.fillRows, effCall, ivAV, ivAVs, avOf, acOf, A1.cells, C.flat, List.lookup, Fx.Holds, AS.behindRegion, AS.apps, thenA, inBlockA, InI64, splice, tab3, tab4, tab9, tab22, tab24, tab25, tab69]
    repeat (refine ⟨by first | assumption | omega, ?_⟩)
    apply hK3
    try clear hK3 K3
    refine awp_ret ?_
    try simp only [thenA, inBlockA]
    rw [← hQ]
    refine ⟨by first | exact .inl rfl | exact .inr rfl, ?_⟩
    simp [AS.result, AS.resVars, AS.resVar, AS.ivOf, AS.ivsOf, AS.resC, AS.resCs, resCs_map, C.flat, AS.get, AS.obj, AS.ups, AS.put, List.lookup, res108, tab3, tab4, tab9, tab22, tab24, tab25, tab69, hfin]
  · try simp at hb_t10
    have hls : xs.length = bs.length := by omega
    refine awp_skip ?_
    try simp only [thenA, inBlockA]
    apply hK1
    try clear hK1 K1
    refine awp_seq_k fun K4 hK4 => ?_
    refine awp_seq_k fun K5 hK5 => ?_
    refine awp_region' ([]) ?_
    simp [fxs, fxOf, dstOK, guardA, runOp, calleeOf, effOp, effBin, AS.ev, AS.get, AS.obj, AS.app, AS.ups, AS.put, AS.behind, AS.rowsOf, AS.resC, AS.resCs, resCs_map, AS.resIV, AS.resArgs, AS.evParts, fillA, AS.fillRows, effCall, ivAV, ivAVs, avOf, acOf, A1.cells, C.flat, List.lookup, Fx.Holds, AS.behindRegion, AS.apps, thenA, inBlockA, InI64, splice, tab3, tab4, tab9, tab22, tab24, tab25, tab69]
    repeat (refine ⟨by first | assumption | omega, ?_⟩)
    apply hK5
    try clear hK5 K5
    refine awp_block ?_
    refine awp_round (A := Unit) (xs.length) (fun k a => Dv.sames (xs.drop k) (bs.drop k) = Dv.sames xs bs) [0, 1] (fun k a => [(5, iv k)]) (fun k a => []) (()) ?_ ?_ ?_ ?_
    · simp
    · refine ⟨?_, ?_, ?_⟩ <;> simp [AS.get, AS.obj, List.lookup, dd, List.filter_cons, List.filter_nil, tab3, tab4, tab9, tab22, tab24, tab25, tab69]
    · intro k a; simp [wfs, AV.wf, A1.wf, AC.wf, Ob.wf, Below', iv, bv, tab3, tab4, tab9, tab22, tab24, tab25, tab69]
    intro k a KL0 hk hI hKL0 sl hsl
    simp [AS.cut, AS.get, AS.obj, List.lookup, dd, List.filter_cons, List.filter_nil, tab3, tab4, tab9, tab22, tab24, tab25, tab69] at hsl
    subst hsl
    refine awp_seq_k fun K6 hK6 => ?_
    refine awp_seq_k fun K7 hK7 => ?_
    refine awp_region' ([]) ?_
    simp [fxs, fxOf, dstOK, guardA, runOp, calleeOf, effOp, effBin, AS.ev, AS.get, AS.obj, AS.app, AS.ups, AS.put, AS.behind, AS.rowsOf, AS.resC, AS.resCs, resCs_map, AS.resIV, AS.resArgs, AS.evParts, fillA, AS.fillRows, effCall, ivAV, ivAVs, avOf, acOf, A1.cells, C.flat, List.lookup, Fx.Holds, AS.behindRegion, AS.apps, thenA, inBlockA, InI64, splice, tab3, tab4, tab9, tab22, tab24, tab25, tab69, Dv.rows_length]
    repeat (refine ⟨by first | assumption | omega, ?_⟩)
    apply hK7
    try clear hK7 K7
    refine awp_cond rfl (fun hb_t14 => ?_) (fun hb_t14 => ?_)
    · try simp at hb_t14
      have hrow := Dv.rows_get hb_t14
      have hcl := Dv.cells_length xs[k]
      have hmem : xs[k] ∈ xs := List.getElem_mem _
      have hb2 : k < bs.length := by omega
      have hrow' := Dv.rows_get hb2
      have hcl' := Dv.cells_length bs[k]
      have hd := Dv.sames_drop hb_t14 hb2
      have hc := ih xs[k] hmem bs[k]
      refine awp_skip ?_
      try simp only [thenA, inBlockA]
      apply hK6
      try clear hK6 K6
      refine awp_seq_k fun K8 hK8 => ?_
      refine awp_block ?_
      refine awp_seq_k fun K9 hK9 => ?_
      refine awp_region_draw' mixed ([(8, .v (.one (.bool (xs[k].same bs[k]))), true)]) ?_
      simp [fxs, fxOf, dstOK, guardA, runOp, calleeOf, effOp, effBin, AS.ev, AS.get, AS.obj, AS.app, AS.ups, AS.put, AS.behind, AS.rowsOf, AS.resC, AS.resCs, resCs_map, AS.resIV, AS.resArgs, AS.evParts, fillA, AS.fillRows, effCall, ivAV, ivAVs, avOf, acOf, A1.cells, C.flat, List.lookup, Fx.Holds, AS.behindRegion, AS.apps, thenA, inBlockA, InI64, splice, tab3, tab4, tab9, tab22, tab24, tab25, tab69, Dv.rows_length, hrow, hcl, hrow', hcl', hc, ← hls]
      refine ⟨by kernel_rfl, ?_⟩
      repeat (refine ⟨by first | assumption | omega, ?_⟩)
      apply hK9
      try clear hK9 K9
      refine awp_cond rfl (fun hb_t26 => ?_) (fun hb_t26 => ?_)
      · try simp at hb_t26
        rw [hd, hb_t26] at hI
        have hfin : Dv.sames xs bs = false := by simp [← hI]
        refine awp_seq_k fun K10 hK10 => ?_
        refine awp_region' ([]) ?_
        simp [fxs, fxOf, dstOK, guardA, runOp, calleeOf, effOp, effBin, AS.ev, AS.get, AS.obj, AS.app, AS.ups, AS.put, AS.behind, AS.rowsOf, AS.resC, AS.resCs, resCs_map, AS.resIV, AS.resArgs, AS.evParts, fillA, AS.fillRows, effCall, ivAV, ivAVs, avOf, acOf, A1.cells, C.flat, List.lookup, Fx.Holds, AS.behindRegion, AS.apps, thenA, inBlockA, InI64, splice, tab3, tab4, tab9, tab22, tab24, tab25, tab69]
        repeat (refine ⟨by first | assumption | omega, ?_⟩)
        apply hK10
        try clear hK10 K10
        refine awp_ret ?_
        try simp only [thenA, inBlockA]
        rw [← hQ]
        refine ⟨by first | exact .inl rfl | exact .inr rfl, ?_⟩
        simp [AS.result, AS.resVars, AS.resVar, AS.ivOf, AS.ivsOf, AS.resC, AS.resCs, resCs_map, C.flat, AS.get, AS.obj, AS.ups, AS.put, List.lookup, res108, tab3, tab4, tab9, tab22, tab24, tab25, tab69, hfin]
      · try simp at hb_t26
        refine awp_skip ?_
        try simp only [thenA, inBlockA]
        apply hK8
        try clear hK8 K8
        refine awp_region' ([]) ?_
        simp [fxs, fxOf, dstOK, guardA, runOp, calleeOf, effOp, effBin, AS.ev, AS.get, AS.obj, AS.app, AS.ups, AS.put, AS.behind, AS.rowsOf, AS.resC, AS.resCs, resCs_map, AS.resIV, AS.resArgs, AS.evParts, fillA, AS.fillRows, effCall, ivAV, ivAVs, avOf, acOf, A1.cells, C.flat, List.lookup, Fx.Holds, AS.behindRegion, AS.apps, thenA, inBlockA, InI64, splice, tab3, tab4, tab9, tab22, tab24, tab25, tab69]
        repeat (refine ⟨by first | assumption | omega, ?_⟩)
        refine hKL0 _ (()) (by omega) ?_ ?_
        · rw [hd] at hI; simp_all
        · refine ⟨?_, ?_, ?_⟩ <;> simp [AS.get, AS.obj, List.lookup, dd, List.filter_cons, List.filter_nil, tab3, tab4, tab9, tab22, tab24, tab25, tab69]
    · try simp at hb_t14
      have hk2 : k = xs.length := by omega
      subst hk2
      have hfin : Dv.sames xs bs = true := by rw [← hI, List.drop_length, List.drop_of_length_le (by omega)]; simp [Dv.sames]
      refine awp_exit ?_
      try simp only [thenA, inBlockA, if_true, if_false, reduceIte, Nat.reduceEqDiff]
      apply hK4
      try clear hK4 K4
      refine awp_seq_k fun K11 hK11 => ?_
      refine awp_region' ([]) ?_
      simp [fxs, fxOf, dstOK, guardA, runOp, calleeOf, effOp, effBin, AS.ev, AS.get, AS.obj, AS.app, AS.ups, AS.put, AS.behind, AS.rowsOf, AS.resC, AS.resCs, resCs_map, AS.resIV, AS.resArgs, AS.evParts, fillA, AS.fillRows, effCall, ivAV, ivAVs, avOf, acOf, A1.cells, C.flat, List.lookup, Fx.Holds, AS.behindRegion, AS.apps, thenA, inBlockA, InI64, splice, tab3, tab4, tab9, tab22, tab24, tab25, tab69]
      repeat (refine ⟨by first | assumption | omega, ?_⟩)
      apply hK11
      try clear hK11 K11
      refine awp_ret ?_
      try simp only [thenA, inBlockA]
      rw [← hQ]
      refine ⟨by first | exact .inl rfl | exact .inr rfl, ?_⟩
      simp [AS.result, AS.resVars, AS.resVar, AS.ivOf, AS.ivsOf, AS.resC, AS.resCs, resCs_map, C.flat, AS.get, AS.obj, AS.ups, AS.put, List.lookup, res108, tab3, tab4, tab9, tab22, tab24, tab25, tab69, hfin]
theorem call43 : Callable Try.prog 43 := callable_of Try.func43 (by kernel_rfl) (by kernel_rfl)
theorem res43 : Try.f43.results.toList = [.tmp 4] := rfl
set_option maxHeartbeats 4000000 in
set_option maxRecDepth 100000 in
theorem deriv_step (r i : Int) (ks : List Dv) (r' i' : Int) (ks' : List Dv) (h : ACalls Try.prog 108 [.one (.slice (Dv.rows ks)), .one (.slice (Dv.rows ks'))] (.v (.one (.bool (Dv.sames ks ks')))) true) : ACalls Try.prog 43 [(IV.agg (Dv.mk r i ks).cells), (.agg (Dv.mk r' i' ks').cells)] (RV.v (.one (.bool ((Dv.mk r i ks).same (Dv.mk r' i' ks'))))) true := by
  refine acalls_of_awp Try.func43 rfl call43 false (by rw [Try.ntmps43]; simp) fun w0 S => ?_
  rw [Try.ntmps43]
  generalize hQ : Done Try.prog false Try.f43.results.toList (RV.v (.one (.bool ((Dv.mk r i ks).same (Dv.mk r' i' ks'))))) true = Q
  simp only [start, startEnv, argAV, Nat.zero_add, Nat.reduceAdd, Dv.cells, List.map_cons, List.map_nil]
  refine awp_seq_k fun K0 hK0 => ?_
  refine awp_region' ([]) ?_
  simp [fxs, fxOf, dstOK, guardA, runOp, calleeOf, effOp, effBin, AS.ev, AS.get, AS.obj, AS.app, AS.ups, AS.put, AS.behind, AS.rowsOf, AS.resC, AS.resCs, resCs_map, AS.resIV, AS.resArgs, AS.evParts, fillA, AS.fillRows, effCall, ivAV, ivAVs, avOf, acOf, A1.cells, C.flat, List.lookup, Fx.Holds, AS.behindRegion, AS.apps, thenA, inBlockA, InI64, splice, tab3, tab4, tab9, tab22, tab24, tab25, tab69]
  repeat (refine ⟨by first | assumption | omega, ?_⟩)
  apply hK0
  try clear hK0 K0
  refine awp_seq_k fun K1 hK1 => ?_
  by_cases hs0 : r = r'
  · by_cases hs1 : i = i'
    · refine awp_region' ([(17, .v (.one (.bool (Dv.sames ks ks'))), true)]) ?_
      simp [fxs, fxOf, dstOK, guardA, runOp, calleeOf, effOp, effBin, AS.ev, AS.get, AS.obj, AS.app, AS.ups, AS.put, AS.behind, AS.rowsOf, AS.resC, AS.resCs, resCs_map, AS.resIV, AS.resArgs, AS.evParts, fillA, AS.fillRows, effCall, ivAV, ivAVs, avOf, acOf, A1.cells, C.flat, List.lookup, Fx.Holds, AS.behindRegion, AS.apps, thenA, inBlockA, InI64, splice, tab3, tab4, tab9, tab22, tab24, tab25, tab69, h, eq_true hs0, eq_true hs1]
      repeat (refine ⟨by first | assumption | omega, ?_⟩)
      apply hK1
      try clear hK1 K1
      refine awp_ret ?_
      try simp only [thenA, inBlockA]
      rw [← hQ]
      refine ⟨by first | exact .inl rfl | exact .inr rfl, ?_⟩
      simp [AS.result, AS.resVars, AS.resVar, AS.ivOf, AS.ivsOf, AS.resC, AS.resCs, resCs_map, C.flat, AS.get, AS.obj, AS.ups, AS.put, List.lookup, res43, tab3, tab4, tab9, tab22, tab24, tab25, tab69, Dv.same, *]
    · refine awp_region' ([(17, .v (.one (.bool (Dv.sames ks ks'))), true)]) ?_
      simp [fxs, fxOf, dstOK, guardA, runOp, calleeOf, effOp, effBin, AS.ev, AS.get, AS.obj, AS.app, AS.ups, AS.put, AS.behind, AS.rowsOf, AS.resC, AS.resCs, resCs_map, AS.resIV, AS.resArgs, AS.evParts, fillA, AS.fillRows, effCall, ivAV, ivAVs, avOf, acOf, A1.cells, C.flat, List.lookup, Fx.Holds, AS.behindRegion, AS.apps, thenA, inBlockA, InI64, splice, tab3, tab4, tab9, tab22, tab24, tab25, tab69, h, eq_true hs0, eq_false hs1]
      repeat (refine ⟨by first | assumption | omega, ?_⟩)
      apply hK1
      try clear hK1 K1
      refine awp_ret ?_
      try simp only [thenA, inBlockA]
      rw [← hQ]
      refine ⟨by first | exact .inl rfl | exact .inr rfl, ?_⟩
      simp [AS.result, AS.resVars, AS.resVar, AS.ivOf, AS.ivsOf, AS.resC, AS.resCs, resCs_map, C.flat, AS.get, AS.obj, AS.ups, AS.put, List.lookup, res43, tab3, tab4, tab9, tab22, tab24, tab25, tab69, Dv.same, *]
  · refine awp_region' ([(17, .v (.one (.bool (Dv.sames ks ks'))), true)]) ?_
    simp [fxs, fxOf, dstOK, guardA, runOp, calleeOf, effOp, effBin, AS.ev, AS.get, AS.obj, AS.app, AS.ups, AS.put, AS.behind, AS.rowsOf, AS.resC, AS.resCs, resCs_map, AS.resIV, AS.resArgs, AS.evParts, fillA, AS.fillRows, effCall, ivAV, ivAVs, avOf, acOf, A1.cells, C.flat, List.lookup, Fx.Holds, AS.behindRegion, AS.apps, thenA, inBlockA, InI64, splice, tab3, tab4, tab9, tab22, tab24, tab25, tab69, h, eq_false hs0]
    repeat (refine ⟨by first | assumption | omega, ?_⟩)
    apply hK1
    try clear hK1 K1
    refine awp_ret ?_
    try simp only [thenA, inBlockA]
    rw [← hQ]
    refine ⟨by first | exact .inl rfl | exact .inr rfl, ?_⟩
    simp [AS.result, AS.resVars, AS.resVar, AS.ivOf, AS.ivsOf, AS.resC, AS.resCs, resCs_map, C.flat, AS.get, AS.obj, AS.ups, AS.put, List.lookup, res43, tab3, tab4, tab9, tab22, tab24, tab25, tab69, Dv.same, *]
theorem deriv_c (a : Dv) (ha : a.nodes < 4611686018427387904) (b : Dv) : ACalls Try.prog 43 [.agg a.cells, .agg b.cells] (.v (.one (.bool (a.same b)))) true := by
  revert ha b
  induction a using Dv.ind with
  | h r i ks ih =>
    intro ha b
    simp only [Dv.nodes] at ha
    have := Dv.length_le ks
    cases b
    exact deriv_step _ _ _ _ _ _ (derivs_step _ _ (by omega) fun k hk b => ih k hk (by have := Dv.nodes_mem hk; omega) b)
theorem call105 : Callable Try.prog 105 := callable_of Try.func105 (by kernel_rfl) (by kernel_rfl)
theorem res105 : Try.f105.results.toList = [.tmp 6] := rfl
set_option maxHeartbeats 4000000 in
set_option maxRecDepth 100000 in
theorem weigh_step (r i : Int) (ks : List Dv) (most deep : Int) (hm : 0 ≤ most) (hm2 : most ≤ 1000000) (hd1 : -1 ≤ deep) (hd2 : deep ≤ 1000) (ih : ∀ k ∈ ks, ∀ most deep : Int, 0 ≤ most → most ≤ 1000000 → -1 ≤ deep → deep ≤ 1000 → ACalls Try.prog 105 [.agg k.cells, .one (.int most), .one (.int deep)] (.v (.one (.int (k.weigh most deep)))) true) : ACalls Try.prog 105 [IV.agg (Dv.mk r i ks).cells, .one (.int most), .one (.int deep)] (RV.v (.one (.int ((Dv.mk r i ks).weigh most deep)))) true := by
  refine acalls_of_awp Try.func105 rfl call105 false (by rw [Try.ntmps105]; simp) fun w0 S => ?_
  rw [Try.ntmps105]
  generalize hQ : Done Try.prog false Try.f105.results.toList (RV.v (.one (.int ((Dv.mk r i ks).weigh most deep)))) true = Q
  simp only [start, startEnv, argAV, Nat.zero_add, Nat.reduceAdd, Dv.cells, List.map_cons, List.map_nil]
  refine awp_seq_k fun K0 hK0 => ?_
  refine awp_region' ([]) ?_
  simp [fxs, fxOf, dstOK, guardA, runOp, calleeOf, effOp, effBin, AS.ev, AS.get, AS.obj, AS.app, AS.ups, AS.put, AS.behind, AS.rowsOf, AS.resC, AS.resCs, resCs_map, AS.resIV, AS.resArgs, AS.evParts, fillA, AS.fillRows, effCall, ivAV, ivAVs, avOf, acOf, A1.cells, C.flat, List.lookup, Fx.Holds, AS.behindRegion, AS.apps, thenA, inBlockA, InI64, splice, tab3, tab4, tab9, tab22, tab24, tab25, tab69]
  repeat (refine ⟨by first | assumption | omega, ?_⟩)
  apply hK0
  try clear hK0 K0
  refine awp_seq_k fun K1 hK1 => ?_
  refine awp_seq_k fun K2 hK2 => ?_
  refine awp_region' ([]) ?_
  simp [fxs, fxOf, dstOK, guardA, runOp, calleeOf, effOp, effBin, AS.ev, AS.get, AS.obj, AS.app, AS.ups, AS.put, AS.behind, AS.rowsOf, AS.resC, AS.resCs, resCs_map, AS.resIV, AS.resArgs, AS.evParts, fillA, AS.fillRows, effCall, ivAV, ivAVs, avOf, acOf, A1.cells, C.flat, List.lookup, Fx.Holds, AS.behindRegion, AS.apps, thenA, inBlockA, InI64, splice, tab3, tab4, tab9, tab22, tab24, tab25, tab69]
  repeat (refine ⟨by first | assumption | omega, ?_⟩)
  apply hK2
  try clear hK2 K2
  refine awp_cond rfl (fun hb_t10 => ?_) (fun hb_t10 => ?_)
  · try simp at hb_t10
    have hfin : (Dv.mk r i ks).weigh most deep = most + 1 := by simp [Dv.weigh, hb_t10]
    refine awp_seq_k fun K3 hK3 => ?_
    refine awp_region' ([]) ?_
    simp [fxs, fxOf, dstOK, guardA, runOp, calleeOf, effOp, effBin, AS.ev, AS.get, AS.obj, AS.app, AS.ups, AS.put, AS.behind, AS.rowsOf, AS.resC, AS.resCs, resCs_map, AS.resIV, AS.resArgs, AS.evParts, fillA, AS.fillRows, effCall, ivAV, ivAVs, avOf, acOf, A1.cells, C.flat, List.lookup, Fx.Holds, AS.behindRegion, AS.apps, thenA, inBlockA, InI64, splice, tab3, tab4, tab9, tab22, tab24, tab25, tab69]
    repeat (refine ⟨by first | assumption | omega, ?_⟩)
    apply hK3
    try clear hK3 K3
    refine awp_ret ?_
    try simp only [thenA, inBlockA]
    rw [← hQ]
    refine ⟨by first | exact .inl rfl | exact .inr rfl, ?_⟩
    simp [AS.result, AS.resVars, AS.resVar, AS.ivOf, AS.ivsOf, AS.resC, AS.resCs, resCs_map, C.flat, AS.get, AS.obj, AS.ups, AS.put, List.lookup, res105, tab3, tab4, tab9, tab22, tab24, tab25, tab69, hfin]
  · try simp at hb_t10
    have hdn : ¬ deep < 0 := by omega
    refine awp_skip ?_
    try simp only [thenA, inBlockA]
    apply hK1
    try clear hK1 K1
    refine awp_seq_k fun K4 hK4 => ?_
    refine awp_region' ([]) ?_
    simp [fxs, fxOf, dstOK, guardA, runOp, calleeOf, effOp, effBin, AS.ev, AS.get, AS.obj, AS.app, AS.ups, AS.put, AS.behind, AS.rowsOf, AS.resC, AS.resCs, resCs_map, AS.resIV, AS.resArgs, AS.evParts, fillA, AS.fillRows, effCall, ivAV, ivAVs, avOf, acOf, A1.cells, C.flat, List.lookup, Fx.Holds, AS.behindRegion, AS.apps, thenA, inBlockA, InI64, splice, tab3, tab4, tab9, tab22, tab24, tab25, tab69]
    repeat (refine ⟨by first | assumption | omega, ?_⟩)
    apply hK4
    try clear hK4 K4
    refine awp_seq_k fun K5 hK5 => ?_
    refine awp_seq_k fun K6 hK6 => ?_
    refine awp_region' ([]) ?_
    simp [fxs, fxOf, dstOK, guardA, runOp, calleeOf, effOp, effBin, AS.ev, AS.get, AS.obj, AS.app, AS.ups, AS.put, AS.behind, AS.rowsOf, AS.resC, AS.resCs, resCs_map, AS.resIV, AS.resArgs, AS.evParts, fillA, AS.fillRows, effCall, ivAV, ivAVs, avOf, acOf, A1.cells, C.flat, List.lookup, Fx.Holds, AS.behindRegion, AS.apps, thenA, inBlockA, InI64, splice, tab3, tab4, tab9, tab22, tab24, tab25, tab69]
    repeat (refine ⟨by first | assumption | omega, ?_⟩)
    apply hK6
    try clear hK6 K6
    refine awp_block ?_
    refine awp_round (A := Int) (ks.length) (fun k a => (k : Int) + 1 ≤ a ∧ a ≤ most + 1 ∧ Dv.weighL (ks.drop k) most deep a = (Dv.mk r i ks).weigh most deep) [1, 2, 3] (fun k a => [(7, iv a), (8, iv k)]) (fun k a => []) (1) ?_ ?_ ?_ ?_
    · simp [Dv.weigh, hdn]; omega
    · refine ⟨?_, ?_, ?_⟩ <;> simp [AS.get, AS.obj, List.lookup, dd, List.filter_cons, List.filter_nil, tab3, tab4, tab9, tab22, tab24, tab25, tab69]
    · intro k a; simp [wfs, AV.wf, A1.wf, AC.wf, Ob.wf, Below', iv, bv, tab3, tab4, tab9, tab22, tab24, tab25, tab69]
    intro k a KL0 hk hI hKL0 sl hsl
    simp [AS.cut, AS.get, AS.obj, List.lookup, dd, List.filter_cons, List.filter_nil, tab3, tab4, tab9, tab22, tab24, tab25, tab69] at hsl
    subst hsl
    refine awp_seq_k fun K7 hK7 => ?_
    refine awp_cut [1, 2, 3, 7, 8] ([(22, bv (decide (k < ks.length) && decide (a ≤ most)))]) ([]) ?_ ?_ ?_
    · simp [wfs, AV.wf, A1.wf, AC.wf, Ob.wf, Below', iv, bv, tab3, tab4, tab9, tab22, tab24, tab25, tab69]
    · intro K8 hK8
      by_cases hs0 : k < ks.length
      · refine awp_region' ([]) ?_
        simp [fxs, fxOf, dstOK, guardA, runOp, calleeOf, effOp, effBin, AS.ev, AS.get, AS.obj, AS.app, AS.ups, AS.put, AS.behind, AS.rowsOf, AS.resC, AS.resCs, resCs_map, AS.resIV, AS.resArgs, AS.evParts, fillA, AS.fillRows, effCall, ivAV, ivAVs, avOf, acOf, A1.cells, C.flat, List.lookup, Fx.Holds, AS.behindRegion, AS.apps, thenA, inBlockA, InI64, splice, tab3, tab4, tab9, tab22, tab24, tab25, tab69, Dv.rows_length, eq_true hs0]
        repeat (refine ⟨by first | assumption | omega, ?_⟩)
        refine hK8 _ ⟨?_, ?_, ?_⟩ <;> simp [AS.get, AS.obj, List.lookup, dd, List.filter_cons, List.filter_nil, tab3, tab4, tab9, tab22, tab24, tab25, tab69, Dv.rows_length, eq_true hs0]
        all_goals first | omega | (simp_all <;> omega)
      · refine awp_region' ([]) ?_
        simp [fxs, fxOf, dstOK, guardA, runOp, calleeOf, effOp, effBin, AS.ev, AS.get, AS.obj, AS.app, AS.ups, AS.put, AS.behind, AS.rowsOf, AS.resC, AS.resCs, resCs_map, AS.resIV, AS.resArgs, AS.evParts, fillA, AS.fillRows, effCall, ivAV, ivAVs, avOf, acOf, A1.cells, C.flat, List.lookup, Fx.Holds, AS.behindRegion, AS.apps, thenA, inBlockA, InI64, splice, tab3, tab4, tab9, tab22, tab24, tab25, tab69, Dv.rows_length, eq_false hs0]
        repeat (refine ⟨by first | assumption | omega, ?_⟩)
        refine hK8 _ ⟨?_, ?_, ?_⟩ <;> simp [AS.get, AS.obj, List.lookup, dd, List.filter_cons, List.filter_nil, tab3, tab4, tab9, tab22, tab24, tab25, tab69, Dv.rows_length, eq_false hs0]
        all_goals first | omega | (simp_all <;> omega)
    intro s8 hs8
    simp [AS.cut, AS.get, AS.obj, List.lookup, dd, List.filter_cons, List.filter_nil, tab3, tab4, tab9, tab22, tab24, tab25, tab69] at hs8
    subst hs8
    refine awp_cond rfl (fun hb_t22 => ?_) (fun hb_t22 => ?_)
    · try simp at hb_t22
      have hka : k < ks.length ∧ a ≤ most := hb_t22
      have hrow := Dv.rows_get hka.1
      have hcl := Dv.cells_length ks[k]
      have hmem : ks[k] ∈ ks := List.getElem_mem _
      have hdr := Dv.weighL_drop hka.1 most deep a
      have hbd := Dv.weigh_bound ks[k] (most - a) (deep - 1) (by omega)
      have hc := ih ks[k] hmem (most - a) (deep - 1) (by omega) (by omega) (by omega) (by omega)
      refine awp_skip ?_
      try simp only [thenA, inBlockA]
      apply hK7
      try clear hK7 K7
      refine awp_seq_k fun K9 hK9 => ?_
      refine awp_block ?_
      refine awp_region' ([(11, .v (.one (.int (ks[k].weigh (most - a) (deep - 1)))), true)]) ?_
      simp [fxs, fxOf, dstOK, guardA, runOp, calleeOf, effOp, effBin, AS.ev, AS.get, AS.obj, AS.app, AS.ups, AS.put, AS.behind, AS.rowsOf, AS.resC, AS.resCs, resCs_map, AS.resIV, AS.resArgs, AS.evParts, fillA, AS.fillRows, effCall, ivAV, ivAVs, avOf, acOf, A1.cells, C.flat, List.lookup, Fx.Holds, AS.behindRegion, AS.apps, thenA, inBlockA, InI64, splice, tab3, tab4, tab9, tab22, tab24, tab25, tab69, Dv.rows_length, hrow, hcl, hc]
      repeat (refine ⟨by first | assumption | omega, ?_⟩)
      apply hK9
      try clear hK9 K9
      refine awp_region' ([]) ?_
      simp [fxs, fxOf, dstOK, guardA, runOp, calleeOf, effOp, effBin, AS.ev, AS.get, AS.obj, AS.app, AS.ups, AS.put, AS.behind, AS.rowsOf, AS.resC, AS.resCs, resCs_map, AS.resIV, AS.resArgs, AS.evParts, fillA, AS.fillRows, effCall, ivAV, ivAVs, avOf, acOf, A1.cells, C.flat, List.lookup, Fx.Holds, AS.behindRegion, AS.apps, thenA, inBlockA, InI64, splice, tab3, tab4, tab9, tab22, tab24, tab25, tab69]
      repeat (refine ⟨by first | assumption | omega, ?_⟩)
      refine hKL0 _ (a + ks[k].weigh (most - a) (deep - 1)) (by omega) ?_ ?_
      · rw [hdr, if_pos hka.2] at hI; exact ⟨by omega, by omega, hI.2.2⟩
      · refine ⟨?_, ?_, ?_⟩ <;> simp [AS.get, AS.obj, List.lookup, dd, List.filter_cons, List.filter_nil, tab3, tab4, tab9, tab22, tab24, tab25, tab69]
    · try simp at hb_t22
      have hfin : (Dv.mk r i ks).weigh most deep = a := by
        rw [← hI.2.2]
        by_cases hkl : k < ks.length
        · rw [Dv.weighL_drop hkl, if_neg (by have := hb_t22 hkl; omega)]
        · rw [List.drop_of_length_le (by omega)]; rfl
      refine awp_exit ?_
      try simp only [thenA, inBlockA, if_true, if_false, reduceIte, Nat.reduceEqDiff]
      apply hK5
      try clear hK5 K5
      refine awp_seq_k fun K10 hK10 => ?_
      refine awp_region' ([]) ?_
      simp [fxs, fxOf, dstOK, guardA, runOp, calleeOf, effOp, effBin, AS.ev, AS.get, AS.obj, AS.app, AS.ups, AS.put, AS.behind, AS.rowsOf, AS.resC, AS.resCs, resCs_map, AS.resIV, AS.resArgs, AS.evParts, fillA, AS.fillRows, effCall, ivAV, ivAVs, avOf, acOf, A1.cells, C.flat, List.lookup, Fx.Holds, AS.behindRegion, AS.apps, thenA, inBlockA, InI64, splice, tab3, tab4, tab9, tab22, tab24, tab25, tab69]
      repeat (refine ⟨by first | assumption | omega, ?_⟩)
      apply hK10
      try clear hK10 K10
      refine awp_ret ?_
      try simp only [thenA, inBlockA]
      rw [← hQ]
      refine ⟨by first | exact .inl rfl | exact .inr rfl, ?_⟩
      simp [AS.result, AS.resVars, AS.resVar, AS.ivOf, AS.ivsOf, AS.resC, AS.resCs, resCs_map, C.flat, AS.get, AS.obj, AS.ups, AS.put, List.lookup, res105, tab3, tab4, tab9, tab22, tab24, tab25, tab69, hfin]
theorem weigh_c (d : Dv) : ∀ (most deep : Int), 0 ≤ most → most ≤ 1000000 → -1 ≤ deep → deep ≤ 1000 → ACalls Try.prog 105 [.agg d.cells, .one (.int most), .one (.int deep)] (.v (.one (.int (d.weigh most deep)))) true := by
  induction d using Dv.ind with
  | h r i ks ih => intro most deep h1 h2 h3 h4; exact weigh_step r i ks most deep h1 h2 h3 h4 ih
theorem call34 : Callable Try.prog 34 := callable_of Try.func34 (by kernel_rfl) (by kernel_rfl)
theorem res34 : Try.f34.results.toList = [.tmp 4] := rfl
set_option maxHeartbeats 4000000 in
set_option maxRecDepth 100000 in
theorem great_c (d : Dv) (most : Int) (hm : 0 ≤ most) (hm2 : most ≤ 1000000) : ACalls Try.prog 34 [IV.agg d.cells, .one (.int most)] (RV.v (.one (.bool (decide (most < d.weigh most 200))))) true := by
  have hc := weigh_c d most 200 hm hm2 (by omega) (by omega)
  have hcl := Dv.cells_length d
  refine acalls_of_awp Try.func34 rfl call34 false (by rw [Try.ntmps34]; simp) fun w0 S => ?_
  rw [Try.ntmps34]
  generalize hQ : Done Try.prog false Try.f34.results.toList (RV.v (.one (.bool (decide (most < d.weigh most 200))))) true = Q
  simp only [start, startEnv, argAV, Nat.zero_add, Nat.reduceAdd]
  refine awp_seq_k fun K0 hK0 => ?_
  refine awp_region' ([]) ?_
  simp [fxs, fxOf, dstOK, guardA, runOp, calleeOf, effOp, effBin, AS.ev, AS.get, AS.obj, AS.app, AS.ups, AS.put, AS.behind, AS.rowsOf, AS.resC, AS.resCs, resCs_map, AS.resIV, AS.resArgs, AS.evParts, fillA, AS.fillRows, effCall, ivAV, ivAVs, avOf, acOf, A1.cells, C.flat, List.lookup, Fx.Holds, AS.behindRegion, AS.apps, thenA, inBlockA, InI64, splice, tab3, tab4, tab9, tab22, tab24, tab25, tab69, hcl]
  repeat (refine ⟨by first | assumption | omega, ?_⟩)
  apply hK0
  try clear hK0 K0
  refine awp_seq_k fun K1 hK1 => ?_
  refine awp_region' ([(2, .v (.one (.int (d.weigh most 200))), true)]) ?_
  simp [fxs, fxOf, dstOK, guardA, runOp, calleeOf, effOp, effBin, AS.ev, AS.get, AS.obj, AS.app, AS.ups, AS.put, AS.behind, AS.rowsOf, AS.resC, AS.resCs, resCs_map, AS.resIV, AS.resArgs, AS.evParts, fillA, AS.fillRows, effCall, ivAV, ivAVs, avOf, acOf, A1.cells, C.flat, List.lookup, Fx.Holds, AS.behindRegion, AS.apps, thenA, inBlockA, InI64, splice, tab3, tab4, tab9, tab22, tab24, tab25, tab69, hcl, hc]
  repeat (refine ⟨by first | assumption | omega, ?_⟩)
  apply hK1
  try clear hK1 K1
  refine awp_ret ?_
  try simp only [thenA, inBlockA]
  rw [← hQ]
  refine ⟨by first | exact .inl rfl | exact .inr rfl, ?_⟩
  simp [AS.result, AS.resVars, AS.resVar, AS.ivOf, AS.ivsOf, AS.resC, AS.resCs, resCs_map, C.flat, AS.get, AS.obj, AS.ups, AS.put, List.lookup, res34, tab3, tab4, tab9, tab22, tab24, tab25, tab69]
end Go.Proofs.Yteaglcbnkephgaa

namespace Go.Proofs.Yteaglcbnkephgaa
open Go Go.RowKit
def Dv.zero : Dv := .mk 0 0 []
def Dv.half (ks : List Dv) (k : Nat) : List (List C) := (Dv.rows ks).take k ++ List.replicate (ks.length - k) [.int 0, .int 0, .slice []]
theorem Dv.half_zero (ks : List Dv) : Dv.half ks 0 = List.replicate ks.length [.int 0, .int 0, .slice []] := by simp [Dv.half]
theorem Dv.half_full (ks : List Dv) : Dv.half ks ks.length = Dv.rows ks := by simp [Dv.half, ← Dv.rows_length]
theorem Dv.half_length {ks : List Dv} {k : Nat} (h : k ≤ ks.length) : (Dv.half ks k).length = ks.length := by simp [Dv.half, Dv.rows_length]; omega
theorem Dv.half_get {ks : List Dv} {k : Nat} (h : k < ks.length) : (Dv.half ks k)[k]?.getD [] = [.int 0, .int 0, .slice []] := by
  have h1 : ((Dv.rows ks).take k).length = k := by simp [Dv.rows_length]; omega
  have h3 : ks.length - k = (ks.length - (k + 1)) + 1 := by omega
  rw [Dv.half, List.getElem?_append_right (by omega), h1, Nat.sub_self, h3, List.replicate_succ]
  rfl
theorem Dv.half_set {ks : List Dv} {k : Nat} (h : k < ks.length) : (Dv.half ks k).set k ks[k].cells = Dv.half ks (k + 1) := by
  have h1 : ((Dv.rows ks).take k).length = k := by simp [Dv.rows_length]; omega
  have h2 : (Dv.rows ks).take (k + 1) = (Dv.rows ks).take k ++ [ks[k].cells] := by
    rw [List.take_add_one]
    congr 1
    rw [Dv.rows_eq]
    simp [h]
  rw [Dv.half, Dv.half, h2, List.set_append_right _ _ (by omega), h1, Nat.sub_self]
  have h3 : ks.length - k = (ks.length - (k + 1)) + 1 := by omega
  rw [h3, List.replicate_succ, List.set_cons_zero]
  simp
theorem Dv.node_in {r i p : Int} {ks : List Dv} {ps : List Int} (h0 : 0 ≤ p) (h : p.toNat < ks.length) : (Dv.mk r i ks).node (p :: ps) = ks[p.toNat].node ps := by
  simp [Dv.node, Dv.kids, h0, h]
theorem Dv.node_out {r i p : Int} {ks : List Dv} {ps : List Int} (h : p < 0 ∨ (ks.length : Int) ≤ p) : (Dv.mk r i ks).node (p :: ps) = none := by
  simp only [Dv.node, Dv.kids]
  split
  · rw [List.getElem?_eq_none (by omega)]
  · rfl
theorem Dv.node_nodes : ∀ {p : List Int} {d e : Dv}, d.node p = some e → e.nodes ≤ d.nodes
  | [], d, e, h => by simp only [Dv.node, Option.some.injEq] at h; subst h; exact Nat.le_refl _
  | p :: ps, .mk r i ks, e, h => by
    simp only [Dv.node, Dv.kids] at h
    split at h
    · split at h
      · rename_i k hk
        have h1 := Dv.node_nodes h
        have h2 := Dv.nodes_mem (List.mem_of_getElem? hk)
        simp only [Dv.nodes]
        omega
      · cases h
    · cases h
mutual
theorem Dv.same_refl : (d : Dv) → d.same d = true
  | .mk r i ks => by simp [Dv.same, Dv.sames_refl ks]
theorem Dv.sames_refl : (ks : List Dv) → Dv.sames ks ks = true
  | [] => rfl
  | k :: ks => by simp [Dv.sames, Dv.same_refl k, Dv.sames_refl ks]
end
theorem call106 : Callable Try.prog 106 := callable_of Try.func106 (by kernel_rfl) (by kernel_rfl)
theorem res106 : Try.f106.results.toList = [.cell 2 24] := rfl
set_option maxHeartbeats 4000000 in
set_option maxRecDepth 100000 in
theorem copied_c_step (r i : Int) (ks : List Dv) (hb : (Dv.mk r i ks).nodes < 1000000) (ih : ∀ k ∈ ks, k.nodes < 1000000 → ACalls Try.prog 106 [.agg k.cells] (.v (.agg k.cells)) true) : ACalls Try.prog 106 [.agg (Dv.mk r i ks).cells] (RV.v (.agg (Dv.mk r i ks).cells)) true := by
  simp only [Dv.nodes] at hb
  have hlen := Dv.length_le ks
  refine acalls_of_awp Try.func106 rfl call106 false (by rw [Try.ntmps106]; simp) fun w0 S => ?_
  rw [Try.ntmps106]
  generalize hQ : Done Try.prog false Try.f106.results.toList (RV.v (.agg (Dv.mk r i ks).cells)) true = Q
  simp only [start, startEnv, argAV, Nat.zero_add, Nat.reduceAdd, Dv.cells, List.map_cons, List.map_nil]
  refine awp_seq_k fun K0 hK0 => ?_
  refine awp_region' ([]) ?_
  simp [fxs, fxOf, dstOK, guardA, runOp, calleeOf, effOp, effBin, AS.ev, AS.get, AS.obj, AS.app, AS.ups, AS.put, AS.behind, AS.rowsOf, AS.resC, AS.resCs, resCs_map, AS.resIV, AS.resArgs, AS.evParts, fillA, AS.fillRows, effCall, ivAV, ivAVs, avOf, acOf, A1.cells, C.flat, List.lookup, Fx.Holds, AS.behindRegion, AS.apps, thenA, inBlockA, InI64, splice, tab3, tab4, tab9, tab22, tab24, tab25, tab69]
  repeat (refine ⟨by first | assumption | omega, ?_⟩)
  apply hK0
  try clear hK0 K0
  refine awp_seq_k fun K1 hK1 => ?_
  refine awp_seq_k fun K2 hK2 => ?_
  refine awp_region' ([]) ?_
  simp [fxs, fxOf, dstOK, guardA, runOp, calleeOf, effOp, effBin, AS.ev, AS.get, AS.obj, AS.app, AS.ups, AS.put, AS.behind, AS.rowsOf, AS.resC, AS.resCs, resCs_map, AS.resIV, AS.resArgs, AS.evParts, fillA, AS.fillRows, effCall, ivAV, ivAVs, avOf, acOf, A1.cells, C.flat, List.lookup, Fx.Holds, AS.behindRegion, AS.apps, thenA, inBlockA, InI64, splice, tab3, tab4, tab9, tab22, tab24, tab25, tab69, Dv.rows_length]
  repeat (refine ⟨by first | assumption | omega, ?_⟩)
  apply hK2
  try clear hK2 K2
  refine awp_cond rfl (fun hb_t9 => ?_) (fun hb_t9 => ?_)
  · try simp at hb_t9
    subst hb_t9
    refine awp_seq_k fun K3 hK3 => ?_
    refine awp_region' ([]) ?_
    simp [fxs, fxOf, dstOK, guardA, runOp, calleeOf, effOp, effBin, AS.ev, AS.get, AS.obj, AS.app, AS.ups, AS.put, AS.behind, AS.rowsOf, AS.resC, AS.resCs, resCs_map, AS.resIV, AS.resArgs, AS.evParts, fillA, AS.fillRows, effCall, ivAV, ivAVs, avOf, acOf, A1.cells, C.flat, List.lookup, Fx.Holds, AS.behindRegion, AS.apps, thenA, inBlockA, InI64, splice, tab3, tab4, tab9, tab22, tab24, tab25, tab69]
    repeat (refine ⟨by first | assumption | omega, ?_⟩)
    apply hK3
    try clear hK3 K3
    refine awp_seq_k fun K4 hK4 => ?_
    refine awp_region' ([]) ?_
    simp [fxs, fxOf, dstOK, guardA, runOp, calleeOf, effOp, effBin, AS.ev, AS.get, AS.obj, AS.app, AS.ups, AS.put, AS.behind, AS.rowsOf, AS.resC, AS.resCs, resCs_map, AS.resIV, AS.resArgs, AS.evParts, fillA, AS.fillRows, effCall, ivAV, ivAVs, avOf, acOf, A1.cells, C.flat, List.lookup, Fx.Holds, AS.behindRegion, AS.apps, thenA, inBlockA, InI64, splice, tab3, tab4, tab9, tab22, tab24, tab25, tab69]
    repeat (refine ⟨by first | assumption | omega, ?_⟩)
    apply hK4
    try clear hK4 K4
    refine awp_ret ?_
    try simp only [thenA, inBlockA]
    rw [← hQ]
    refine ⟨by first | exact .inl rfl | exact .inr rfl, ?_⟩
    simp [AS.result, AS.resVars, AS.resVar, AS.ivOf, AS.ivsOf, AS.resC, AS.resCs, resCs_map, C.flat, AS.get, AS.obj, AS.ups, AS.put, List.lookup, res106, tab3, tab4, tab9, tab22, tab24, tab25, tab69, Dv.cells, Dv.rows, Dv.half_full]
  · try simp at hb_t9
    refine awp_skip ?_
    try simp only [thenA, inBlockA]
    apply hK1
    try clear hK1 K1
    refine awp_seq_k fun K5 hK5 => ?_
    refine awp_region' ([]) ?_
    simp [fxs, fxOf, dstOK, guardA, runOp, calleeOf, effOp, effBin, AS.ev, AS.get, AS.obj, AS.app, AS.ups, AS.put, AS.behind, AS.rowsOf, AS.resC, AS.resCs, resCs_map, AS.resIV, AS.resArgs, AS.evParts, fillA, AS.fillRows, effCall, ivAV, ivAVs, avOf, acOf, A1.cells, C.flat, List.lookup, Fx.Holds, AS.behindRegion, AS.apps, thenA, inBlockA, InI64, splice, tab3, tab4, tab9, tab22, tab24, tab25, tab69, Dv.rows_length]
    repeat (refine ⟨by first | assumption | omega, ?_⟩)
    apply hK5
    try clear hK5 K5
    refine awp_seq_k fun K6 hK6 => ?_
    refine awp_seq_k fun K7 hK7 => ?_
    refine awp_region' ([]) ?_
    simp [fxs, fxOf, dstOK, guardA, runOp, calleeOf, effOp, effBin, AS.ev, AS.get, AS.obj, AS.app, AS.ups, AS.put, AS.behind, AS.rowsOf, AS.resC, AS.resCs, resCs_map, AS.resIV, AS.resArgs, AS.evParts, fillA, AS.fillRows, effCall, ivAV, ivAVs, avOf, acOf, A1.cells, C.flat, List.lookup, Fx.Holds, AS.behindRegion, AS.apps, thenA, inBlockA, InI64, splice, tab3, tab4, tab9, tab22, tab24, tab25, tab69, Dv.rows_length]
    repeat (refine ⟨by first | assumption | omega, ?_⟩)
    apply hK7
    try clear hK7 K7
    refine awp_block ?_
    refine awp_round (A := Unit) (ks.length) (fun k a => True) [1, 2, 3, 17, 18] (fun k a => [(19, iv k)]) (fun k a => [(9, some (.row 24 3 (Dv.half ks k) true))]) (()) ?_ ?_ ?_ ?_
    · trivial
    · refine ⟨?_, ?_, ?_⟩ <;> simp [AS.get, AS.obj, List.lookup, dd, List.filter_cons, List.filter_nil, tab3, tab4, tab9, tab22, tab24, tab25, tab69, Dv.half_zero]
    · intro k a; simp [wfs, AV.wf, A1.wf, AC.wf, Ob.wf, Below', iv, bv, tab3, tab4, tab9, tab22, tab24, tab25, tab69]
    intro k a KL0 hk hI hKL0 sl hsl
    simp [AS.cut, AS.get, AS.obj, List.lookup, dd, List.filter_cons, List.filter_nil, tab3, tab4, tab9, tab22, tab24, tab25, tab69] at hsl
    subst hsl
    refine awp_seq_k fun K8 hK8 => ?_
    refine awp_region' ([]) ?_
    simp [fxs, fxOf, dstOK, guardA, runOp, calleeOf, effOp, effBin, AS.ev, AS.get, AS.obj, AS.app, AS.ups, AS.put, AS.behind, AS.rowsOf, AS.resC, AS.resCs, resCs_map, AS.resIV, AS.resArgs, AS.evParts, fillA, AS.fillRows, effCall, ivAV, ivAVs, avOf, acOf, A1.cells, C.flat, List.lookup, Fx.Holds, AS.behindRegion, AS.apps, thenA, inBlockA, InI64, splice, tab3, tab4, tab9, tab22, tab24, tab25, tab69]
    repeat (refine ⟨by first | assumption | omega, ?_⟩)
    apply hK8
    try clear hK8 K8
    refine awp_seq_k fun K9 hK9 => ?_
    refine awp_cond rfl (fun hb_t20 => ?_) (fun hb_t20 => ?_)
    · try simp at hb_t20
      have hlen := Dv.length_le ks
      have hrow := Dv.rows_get hb_t20
      have hcl := Dv.cells_length ks[k]
      have hmem : ks[k] ∈ ks := List.getElem_mem _
      have hm := Dv.nodes_mem hmem
      have hc := ih ks[k] hmem (by omega)
      have hhl := Dv.half_length (Nat.le_of_lt hb_t20)
      have hhg := Dv.half_get hb_t20
      have hhs := Dv.half_set hb_t20
      refine awp_skip ?_
      try simp only [thenA, inBlockA]
      apply hK9
      try clear hK9 K9
      refine awp_seq_k fun K10 hK10 => ?_
      refine awp_block ?_
      refine awp_seq_k fun K11 hK11 => ?_
      refine awp_region' ([]) ?_
      simp [fxs, fxOf, dstOK, guardA, runOp, calleeOf, effOp, effBin, AS.ev, AS.get, AS.obj, AS.app, AS.ups, AS.put, AS.behind, AS.rowsOf, AS.resC, AS.resCs, resCs_map, AS.resIV, AS.resArgs, AS.evParts, fillA, AS.fillRows, effCall, ivAV, ivAVs, avOf, acOf, A1.cells, C.flat, List.lookup, Fx.Holds, AS.behindRegion, AS.apps, thenA, inBlockA, InI64, splice, tab3, tab4, tab9, tab22, tab24, tab25, tab69, Dv.rows_length, hrow, hcl]
      repeat (refine ⟨by first | assumption | omega, ?_⟩)
      apply hK11
      try clear hK11 K11
      refine awp_region' ([(3, .v (.agg ks[k].cells), true)]) ?_
      simp [fxs, fxOf, dstOK, guardA, runOp, calleeOf, effOp, effBin, AS.ev, AS.get, AS.obj, AS.app, AS.ups, AS.put, AS.behind, AS.rowsOf, AS.resC, AS.resCs, resCs_map, AS.resIV, AS.resArgs, AS.evParts, fillA, AS.fillRows, effCall, ivAV, ivAVs, avOf, acOf, A1.cells, C.flat, List.lookup, Fx.Holds, AS.behindRegion, AS.apps, thenA, inBlockA, InI64, splice, tab3, tab4, tab9, tab22, tab24, tab25, tab69, hcl, hc, hhl, hhg, hhs]
      repeat (refine ⟨by first | assumption | omega, ?_⟩)
      apply hK10
      try clear hK10 K10
      refine awp_region' ([]) ?_
      simp [fxs, fxOf, dstOK, guardA, runOp, calleeOf, effOp, effBin, AS.ev, AS.get, AS.obj, AS.app, AS.ups, AS.put, AS.behind, AS.rowsOf, AS.resC, AS.resCs, resCs_map, AS.resIV, AS.resArgs, AS.evParts, fillA, AS.fillRows, effCall, ivAV, ivAVs, avOf, acOf, A1.cells, C.flat, List.lookup, Fx.Holds, AS.behindRegion, AS.apps, thenA, inBlockA, InI64, splice, tab3, tab4, tab9, tab22, tab24, tab25, tab69]
      repeat (refine ⟨by first | assumption | omega, ?_⟩)
      refine hKL0 _ (()) (by omega) ?_ ?_
      · trivial
      · refine ⟨?_, ?_, ?_⟩ <;> simp [AS.get, AS.obj, List.lookup, dd, List.filter_cons, List.filter_nil, tab3, tab4, tab9, tab22, tab24, tab25, tab69, Dv.half_zero]
    · try simp at hb_t20
      have hk2 : k = ks.length := by omega
      subst hk2
      refine awp_exit ?_
      try simp only [thenA, inBlockA, if_true, if_false, reduceIte, Nat.reduceEqDiff]
      apply hK6
      try clear hK6 K6
      refine awp_seq_k fun K12 hK12 => ?_
      refine awp_region' ([]) ?_
      simp [fxs, fxOf, dstOK, guardA, runOp, calleeOf, effOp, effBin, AS.ev, AS.get, AS.obj, AS.app, AS.ups, AS.put, AS.behind, AS.rowsOf, AS.resC, AS.resCs, resCs_map, AS.resIV, AS.resArgs, AS.evParts, fillA, AS.fillRows, effCall, ivAV, ivAVs, avOf, acOf, A1.cells, C.flat, List.lookup, Fx.Holds, AS.behindRegion, AS.apps, thenA, inBlockA, InI64, splice, tab3, tab4, tab9, tab22, tab24, tab25, tab69]
      repeat (refine ⟨by first | assumption | omega, ?_⟩)
      apply hK12
      try clear hK12 K12
      refine awp_seq_k fun K13 hK13 => ?_
      refine awp_region' ([]) ?_
      simp [fxs, fxOf, dstOK, guardA, runOp, calleeOf, effOp, effBin, AS.ev, AS.get, AS.obj, AS.app, AS.ups, AS.put, AS.behind, AS.rowsOf, AS.resC, AS.resCs, resCs_map, AS.resIV, AS.resArgs, AS.evParts, fillA, AS.fillRows, effCall, ivAV, ivAVs, avOf, acOf, A1.cells, C.flat, List.lookup, Fx.Holds, AS.behindRegion, AS.apps, thenA, inBlockA, InI64, splice, tab3, tab4, tab9, tab22, tab24, tab25, tab69]
      repeat (refine ⟨by first | assumption | omega, ?_⟩)
      apply hK13
      try clear hK13 K13
      refine awp_ret ?_
      try simp only [thenA, inBlockA]
      rw [← hQ]
      refine ⟨by first | exact .inl rfl | exact .inr rfl, ?_⟩
      simp [AS.result, AS.resVars, AS.resVar, AS.ivOf, AS.ivsOf, AS.resC, AS.resCs, resCs_map, C.flat, AS.get, AS.obj, AS.ups, AS.put, List.lookup, res106, tab3, tab4, tab9, tab22, tab24, tab25, tab69, Dv.cells, Dv.rows, Dv.half_full]
theorem copied_c (d : Dv) (hb : d.nodes < 1000000) : ACalls Try.prog 106 [.agg d.cells] (.v (.agg d.cells)) true := by
  revert hb
  induction d using Dv.ind with
  | h r i ks ih => intro hb; exact copied_c_step r i ks hb ih
theorem call35 : Callable Try.prog 35 := callable_of Try.func35 (by kernel_rfl) (by kernel_rfl)
theorem res35 : Try.f35.results.toList = [.cell 4 24, .tmp 5] := rfl
set_option maxHeartbeats 4000000 in
set_option maxRecDepth 100000 in
theorem at_c (d : Dv) (path : List Int) (hb : d.nodes < 1000000) (hp : path.length < 1000000) : ACalls Try.prog 35 [IV.agg d.cells, .one (.slice (ints path))] (.tup [.agg ((d.node path).getD Dv.zero).cells, .one (.bool (d.node path).isSome)]) true := by
  have hcl := Dv.cells_length d
  refine acalls_of_awp Try.func35 rfl call35 false (by rw [Try.ntmps35]; simp) fun w0 S => ?_
  rw [Try.ntmps35]
  generalize hQ : Done Try.prog false Try.f35.results.toList (.tup [.agg ((d.node path).getD Dv.zero).cells, .one (.bool (d.node path).isSome)]) true = Q
  simp only [start, startEnv, argAV, Nat.zero_add, Nat.reduceAdd]
  refine awp_seq_k fun K0 hK0 => ?_
  refine awp_region' ([]) ?_
  simp [fxs, fxOf, dstOK, guardA, runOp, calleeOf, effOp, effBin, AS.ev, AS.get, AS.obj, AS.app, AS.ups, AS.put, AS.behind, AS.rowsOf, AS.resC, AS.resCs, resCs_map, AS.resIV, AS.resArgs, AS.evParts, fillA, AS.fillRows, effCall, ivAV, ivAVs, avOf, acOf, A1.cells, C.flat, List.lookup, Fx.Holds, AS.behindRegion, AS.apps, thenA, inBlockA, InI64, splice, tab3, tab4, tab9, tab22, tab24, tab25, tab69, hcl]
  repeat (refine ⟨by first | assumption | omega, ?_⟩)
  apply hK0
  try clear hK0 K0
  refine awp_seq_k fun K1 hK1 => ?_
  refine awp_seq_k fun K2 hK2 => ?_
  refine awp_region' ([]) ?_
  simp [fxs, fxOf, dstOK, guardA, runOp, calleeOf, effOp, effBin, AS.ev, AS.get, AS.obj, AS.app, AS.ups, AS.put, AS.behind, AS.rowsOf, AS.resC, AS.resCs, resCs_map, AS.resIV, AS.resArgs, AS.evParts, fillA, AS.fillRows, effCall, ivAV, ivAVs, avOf, acOf, A1.cells, C.flat, List.lookup, Fx.Holds, AS.behindRegion, AS.apps, thenA, inBlockA, InI64, splice, tab3, tab4, tab9, tab22, tab24, tab25, tab69, ints_length]
  repeat (refine ⟨by first | assumption | omega, ?_⟩)
  apply hK2
  try clear hK2 K2
  refine awp_block ?_
  refine awp_round (A := Dv) (path.length) (fun k a => a.node (path.drop k) = d.node path ∧ a.nodes ≤ d.nodes) [2, 4, 8, 9] (fun k a => [(10, iv k)]) (fun k a => [(0, some (.box (a.cells.map (.c · false))))]) (d) ?_ ?_ ?_ ?_
  · simp
  · refine ⟨?_, ?_, ?_⟩ <;> simp [AS.get, AS.obj, List.lookup, dd, List.filter_cons, List.filter_nil, tab3, tab4, tab9, tab22, tab24, tab25, tab69]
  · intro k a; simp [wfs, AV.wf, A1.wf, AC.wf, Ob.wf, Below', iv, bv, tab3, tab4, tab9, tab22, tab24, tab25, tab69]
  intro k a KL0 hk hI hKL0 sl hsl
  simp [AS.cut, AS.get, AS.obj, List.lookup, dd, List.filter_cons, List.filter_nil, tab3, tab4, tab9, tab22, tab24, tab25, tab69] at hsl
  subst hsl
  obtain ⟨ra, ia, ka⟩ := a
  have hkl := Dv.length_le ka
  simp only [Dv.cells, List.map_cons, List.map_nil]
  simp only [Dv.nodes] at hI
  refine awp_seq_k fun K3 hK3 => ?_
  refine awp_region' ([]) ?_
  simp [fxs, fxOf, dstOK, guardA, runOp, calleeOf, effOp, effBin, AS.ev, AS.get, AS.obj, AS.app, AS.ups, AS.put, AS.behind, AS.rowsOf, AS.resC, AS.resCs, resCs_map, AS.resIV, AS.resArgs, AS.evParts, fillA, AS.fillRows, effCall, ivAV, ivAVs, avOf, acOf, A1.cells, C.flat, List.lookup, Fx.Holds, AS.behindRegion, AS.apps, thenA, inBlockA, InI64, splice, tab3, tab4, tab9, tab22, tab24, tab25, tab69]
  repeat (refine ⟨by first | assumption | omega, ?_⟩)
  apply hK3
  try clear hK3 K3
  refine awp_seq_k fun K4 hK4 => ?_
  refine awp_cond rfl (fun hb_t11 => ?_) (fun hb_t11 => ?_)
  · try simp at hb_t11
    have hkp : k < path.length := hb_t11
    have hpg := ints_get hkp
    refine awp_skip ?_
    try simp only [thenA, inBlockA]
    apply hK4
    try clear hK4 K4
    refine awp_seq_k fun K5 hK5 => ?_
    refine awp_block ?_
    refine awp_seq_k fun K6 hK6 => ?_
    refine awp_region' ([]) ?_
    simp [fxs, fxOf, dstOK, guardA, runOp, calleeOf, effOp, effBin, AS.ev, AS.get, AS.obj, AS.app, AS.ups, AS.put, AS.behind, AS.rowsOf, AS.resC, AS.resCs, resCs_map, AS.resIV, AS.resArgs, AS.evParts, fillA, AS.fillRows, effCall, ivAV, ivAVs, avOf, acOf, A1.cells, C.flat, List.lookup, Fx.Holds, AS.behindRegion, AS.apps, thenA, inBlockA, InI64, splice, tab3, tab4, tab9, tab22, tab24, tab25, tab69, ints_length, hpg]
    repeat (refine ⟨by first | assumption | omega, ?_⟩)
    apply hK6
    try clear hK6 K6
    refine awp_seq_k fun K7 hK7 => ?_
    refine awp_cut [2, 4, 7, 8, 9, 10] ([(22, bv (decide (path[k] < 0) || decide ((ka.length : Int) ≤ path[k])))]) ([]) ?_ ?_ ?_
    · simp [wfs, AV.wf, A1.wf, AC.wf, Ob.wf, Below', iv, bv, tab3, tab4, tab9, tab22, tab24, tab25, tab69]
    · intro K8 hK8
      by_cases hs0 : path[k] < 0
      · refine awp_region' ([]) ?_
        simp [fxs, fxOf, dstOK, guardA, runOp, calleeOf, effOp, effBin, AS.ev, AS.get, AS.obj, AS.app, AS.ups, AS.put, AS.behind, AS.rowsOf, AS.resC, AS.resCs, resCs_map, AS.resIV, AS.resArgs, AS.evParts, fillA, AS.fillRows, effCall, ivAV, ivAVs, avOf, acOf, A1.cells, C.flat, List.lookup, Fx.Holds, AS.behindRegion, AS.apps, thenA, inBlockA, InI64, splice, tab3, tab4, tab9, tab22, tab24, tab25, tab69, Dv.rows_length, eq_true hs0]
        repeat (refine ⟨by first | assumption | omega, ?_⟩)
        refine hK8 _ ⟨?_, ?_, ?_⟩ <;> simp [AS.get, AS.obj, List.lookup, dd, List.filter_cons, List.filter_nil, tab3, tab4, tab9, tab22, tab24, tab25, tab69, Dv.rows_length, eq_true hs0]
        all_goals first | omega | (simp_all <;> omega)
      · refine awp_region' ([]) ?_
        simp [fxs, fxOf, dstOK, guardA, runOp, calleeOf, effOp, effBin, AS.ev, AS.get, AS.obj, AS.app, AS.ups, AS.put, AS.behind, AS.rowsOf, AS.resC, AS.resCs, resCs_map, AS.resIV, AS.resArgs, AS.evParts, fillA, AS.fillRows, effCall, ivAV, ivAVs, avOf, acOf, A1.cells, C.flat, List.lookup, Fx.Holds, AS.behindRegion, AS.apps, thenA, inBlockA, InI64, splice, tab3, tab4, tab9, tab22, tab24, tab25, tab69, Dv.rows_length, eq_false hs0]
        repeat (refine ⟨by first | assumption | omega, ?_⟩)
        refine hK8 _ ⟨?_, ?_, ?_⟩ <;> simp [AS.get, AS.obj, List.lookup, dd, List.filter_cons, List.filter_nil, tab3, tab4, tab9, tab22, tab24, tab25, tab69, Dv.rows_length, eq_false hs0]
        all_goals first | omega | (simp_all <;> omega)
    intro s8 hs8
    simp [AS.cut, AS.get, AS.obj, List.lookup, dd, List.filter_cons, List.filter_nil, tab3, tab4, tab9, tab22, tab24, tab25, tab69] at hs8
    subst hs8
    refine awp_cond rfl (fun hb_t22 => ?_) (fun hb_t22 => ?_)
    · try simp at hb_t22
      have hfin : d.node path = none := by rw [← hI.1, List.drop_eq_getElem_cons hkp, Dv.node_out (by omega)]
      refine awp_seq_k fun K9 hK9 => ?_
      refine awp_region' ([]) ?_
      simp [fxs, fxOf, dstOK, guardA, runOp, calleeOf, effOp, effBin, AS.ev, AS.get, AS.obj, AS.app, AS.ups, AS.put, AS.behind, AS.rowsOf, AS.resC, AS.resCs, resCs_map, AS.resIV, AS.resArgs, AS.evParts, fillA, AS.fillRows, effCall, ivAV, ivAVs, avOf, acOf, A1.cells, C.flat, List.lookup, Fx.Holds, AS.behindRegion, AS.apps, thenA, inBlockA, InI64, splice, tab3, tab4, tab9, tab22, tab24, tab25, tab69]
      repeat (refine ⟨by first | assumption | omega, ?_⟩)
      apply hK9
      try clear hK9 K9
      refine awp_ret ?_
      try simp only [thenA, inBlockA]
      rw [← hQ]
      refine ⟨by first | exact .inl rfl | exact .inr rfl, ?_⟩
      simp [AS.result, AS.resVars, AS.resVar, AS.ivOf, AS.ivsOf, AS.resC, AS.resCs, resCs_map, C.flat, AS.get, AS.obj, AS.ups, AS.put, List.lookup, res35, tab3, tab4, tab9, tab22, tab24, tab25, tab69, hfin, Dv.zero, Dv.cells, Dv.rows]
    · try simp at hb_t22
      have hpl : path[k].toNat < ka.length := by omega
      have hrow := Dv.rows_get hpl
      have hclk := Dv.cells_length ka[path[k].toNat]
      refine awp_skip ?_
      try simp only [thenA, inBlockA]
      apply hK7
      try clear hK7 K7
      refine awp_region' ([]) ?_
      simp [fxs, fxOf, dstOK, guardA, runOp, calleeOf, effOp, effBin, AS.ev, AS.get, AS.obj, AS.app, AS.ups, AS.put, AS.behind, AS.rowsOf, AS.resC, AS.resCs, resCs_map, AS.resIV, AS.resArgs, AS.evParts, fillA, AS.fillRows, effCall, ivAV, ivAVs, avOf, acOf, A1.cells, C.flat, List.lookup, Fx.Holds, AS.behindRegion, AS.apps, thenA, inBlockA, InI64, splice, tab3, tab4, tab9, tab22, tab24, tab25, tab69, Dv.rows_length, hrow, hclk]
      repeat (refine ⟨by first | assumption | omega, ?_⟩)
      apply hK5
      try clear hK5 K5
      refine awp_region' ([]) ?_
      simp [fxs, fxOf, dstOK, guardA, runOp, calleeOf, effOp, effBin, AS.ev, AS.get, AS.obj, AS.app, AS.ups, AS.put, AS.behind, AS.rowsOf, AS.resC, AS.resCs, resCs_map, AS.resIV, AS.resArgs, AS.evParts, fillA, AS.fillRows, effCall, ivAV, ivAVs, avOf, acOf, A1.cells, C.flat, List.lookup, Fx.Holds, AS.behindRegion, AS.apps, thenA, inBlockA, InI64, splice, tab3, tab4, tab9, tab22, tab24, tab25, tab69]
      repeat (refine ⟨by first | assumption | omega, ?_⟩)
      refine hKL0 _ (ka[path[k].toNat]) (by omega) ?_ ?_
      · exact ⟨by rw [← hI.1, List.drop_eq_getElem_cons hkp, Dv.node_in (by omega) hpl], by have := Dv.nodes_mem (List.getElem_mem hpl); omega⟩
      · refine ⟨?_, ?_, ?_⟩ <;> simp [AS.get, AS.obj, List.lookup, dd, List.filter_cons, List.filter_nil, tab3, tab4, tab9, tab22, tab24, tab25, tab69]
  · try simp at hb_t11
    have hk2 : k = path.length := by omega
    subst hk2
    have hfin : d.node path = some (.mk ra ia ka) := by rw [← hI.1]; simp [Dv.node]
    have hc := copied_c (.mk ra ia ka) (by simp only [Dv.nodes]; omega)
    simp only [Dv.cells] at hc
    refine awp_exit ?_
    try simp only [thenA, inBlockA, if_true, if_false, reduceIte, Nat.reduceEqDiff]
    apply hK1
    try clear hK1 K1
    refine awp_seq_k fun K10 hK10 => ?_
    refine awp_region' ([(1, .v (.agg (Dv.mk ra ia ka).cells), true)]) ?_
    simp [fxs, fxOf, dstOK, guardA, runOp, calleeOf, effOp, effBin, AS.ev, AS.get, AS.obj, AS.app, AS.ups, AS.put, AS.behind, AS.rowsOf, AS.resC, AS.resCs, resCs_map, AS.resIV, AS.resArgs, AS.evParts, fillA, AS.fillRows, effCall, ivAV, ivAVs, avOf, acOf, A1.cells, C.flat, List.lookup, Fx.Holds, AS.behindRegion, AS.apps, thenA, inBlockA, InI64, splice, tab3, tab4, tab9, tab22, tab24, tab25, tab69, Dv.cells, hc]
    repeat (refine ⟨by first | assumption | omega, ?_⟩)
    apply hK10
    try clear hK10 K10
    refine awp_ret ?_
    try simp only [thenA, inBlockA]
    rw [← hQ]
    refine ⟨by first | exact .inl rfl | exact .inr rfl, ?_⟩
    simp [AS.result, AS.resVars, AS.resVar, AS.ivOf, AS.ivsOf, AS.resC, AS.resCs, resCs_map, C.flat, AS.get, AS.obj, AS.ups, AS.put, List.lookup, res35, tab3, tab4, tab9, tab22, tab24, tab25, tab69, hfin, Dv.zero, Dv.cells, Dv.rows]
theorem call36 : Callable Try.prog 36 := callable_of Try.func36 (by kernel_rfl) (by kernel_rfl)
theorem res36 : Try.f36.results.toList = [.cell 4 24, .tmp 5] := rfl
set_option maxHeartbeats 4000000 in
set_option maxRecDepth 100000 in
theorem at_r (d : Dv) (path : List Int) (hb : d.nodes < 1000000) (hp : path.length < 1000000) : ACalls Try.prog 36 [IV.agg d.cells, .one (.slice (ints path))] (.tup [.agg ((d.node path).getD Dv.zero).cells, .one (.bool (d.node path).isSome)]) false := by
  have hcl := Dv.cells_length d
  refine acalls_of_awp Try.func36 rfl call36 false (by rw [Try.ntmps36]; simp) fun w0 S => ?_
  rw [Try.ntmps36]
  generalize hQ : Done Try.prog false Try.f36.results.toList (.tup [.agg ((d.node path).getD Dv.zero).cells, .one (.bool (d.node path).isSome)]) false = Q
  simp only [start, startEnv, argAV, Nat.zero_add, Nat.reduceAdd]
  refine awp_seq_k fun K0 hK0 => ?_
  refine awp_region' ([]) ?_
  simp [fxs, fxOf, dstOK, guardA, runOp, calleeOf, effOp, effBin, AS.ev, AS.get, AS.obj, AS.app, AS.ups, AS.put, AS.behind, AS.rowsOf, AS.resC, AS.resCs, resCs_map, AS.resIV, AS.resArgs, AS.evParts, fillA, AS.fillRows, effCall, ivAV, ivAVs, avOf, acOf, A1.cells, C.flat, List.lookup, Fx.Holds, AS.behindRegion, AS.apps, thenA, inBlockA, InI64, splice, tab3, tab4, tab9, tab22, tab24, tab25, tab69, hcl]
  repeat (refine ⟨by first | assumption | omega, ?_⟩)
  apply hK0
  try clear hK0 K0
  refine awp_seq_k fun K1 hK1 => ?_
  refine awp_seq_k fun K2 hK2 => ?_
  refine awp_region' ([]) ?_
  simp [fxs, fxOf, dstOK, guardA, runOp, calleeOf, effOp, effBin, AS.ev, AS.get, AS.obj, AS.app, AS.ups, AS.put, AS.behind, AS.rowsOf, AS.resC, AS.resCs, resCs_map, AS.resIV, AS.resArgs, AS.evParts, fillA, AS.fillRows, effCall, ivAV, ivAVs, avOf, acOf, A1.cells, C.flat, List.lookup, Fx.Holds, AS.behindRegion, AS.apps, thenA, inBlockA, InI64, splice, tab3, tab4, tab9, tab22, tab24, tab25, tab69]
  repeat (refine ⟨by first | assumption | omega, ?_⟩)
  apply hK2
  try clear hK2 K2
  refine awp_block ?_
  refine awp_round (A := Dv) (path.length) (fun k a => a.node (path.drop k) = d.node path ∧ a.nodes ≤ d.nodes) [1, 2, 4] (fun k a => [(6, iv k)]) (fun k a => [(0, some (.box (a.cells.map (.c · false))))]) (d) ?_ ?_ ?_ ?_
  · simp
  · refine ⟨?_, ?_, ?_⟩ <;> simp [AS.get, AS.obj, List.lookup, dd, List.filter_cons, List.filter_nil, tab3, tab4, tab9, tab22, tab24, tab25, tab69]
  · intro k a; simp [wfs, AV.wf, A1.wf, AC.wf, Ob.wf, Below', iv, bv, tab3, tab4, tab9, tab22, tab24, tab25, tab69]
  intro k a KL0 hk hI hKL0 sl hsl
  simp [AS.cut, AS.get, AS.obj, List.lookup, dd, List.filter_cons, List.filter_nil, tab3, tab4, tab9, tab22, tab24, tab25, tab69] at hsl
  subst hsl
  obtain ⟨ra, ia, ka⟩ := a
  have hkl := Dv.length_le ka
  simp only [Dv.cells, List.map_cons, List.map_nil]
  simp only [Dv.nodes] at hI
  refine awp_seq_k fun K3 hK3 => ?_
  refine awp_seq_k fun K4 hK4 => ?_
  refine awp_region' ([]) ?_
  simp [fxs, fxOf, dstOK, guardA, runOp, calleeOf, effOp, effBin, AS.ev, AS.get, AS.obj, AS.app, AS.ups, AS.put, AS.behind, AS.rowsOf, AS.resC, AS.resCs, resCs_map, AS.resIV, AS.resArgs, AS.evParts, fillA, AS.fillRows, effCall, ivAV, ivAVs, avOf, acOf, A1.cells, C.flat, List.lookup, Fx.Holds, AS.behindRegion, AS.apps, thenA, inBlockA, InI64, splice, tab3, tab4, tab9, tab22, tab24, tab25, tab69, ints_length]
  repeat (refine ⟨by first | assumption | omega, ?_⟩)
  apply hK4
  try clear hK4 K4
  refine awp_cond rfl (fun hb_t10 => ?_) (fun hb_t10 => ?_)
  · try simp at hb_t10
    have hkp : k < path.length := hb_t10
    have hpg := ints_get hkp
    refine awp_skip ?_
    try simp only [thenA, inBlockA]
    apply hK3
    try clear hK3 K3
    refine awp_seq_k fun K5 hK5 => ?_
    refine awp_block ?_
    refine awp_seq_k fun K6 hK6 => ?_
    refine awp_cut [1, 2, 4, 6] ([(27, bv (decide (path[k] < 0) || decide ((ka.length : Int) ≤ path[k])))]) ([]) ?_ ?_ ?_
    · simp [wfs, AV.wf, A1.wf, AC.wf, Ob.wf, Below', iv, bv, tab3, tab4, tab9, tab22, tab24, tab25, tab69]
    · intro K7 hK7
      by_cases hs0 : path[k] < 0
      · refine awp_region_draw' mixed ([]) ?_
        simp [fxs, fxOf, dstOK, guardA, runOp, calleeOf, effOp, effBin, AS.ev, AS.get, AS.obj, AS.app, AS.ups, AS.put, AS.behind, AS.rowsOf, AS.resC, AS.resCs, resCs_map, AS.resIV, AS.resArgs, AS.evParts, fillA, AS.fillRows, effCall, ivAV, ivAVs, avOf, acOf, A1.cells, C.flat, List.lookup, Fx.Holds, AS.behindRegion, AS.apps, thenA, inBlockA, InI64, splice, tab3, tab4, tab9, tab22, tab24, tab25, tab69, ints_length, hpg, Dv.rows_length, eq_true hs0]
        refine ⟨by kernel_rfl, ?_⟩
        repeat (refine ⟨by first | assumption | omega, ?_⟩)
        refine hK7 _ ⟨?_, ?_, ?_⟩ <;> simp [AS.get, AS.obj, List.lookup, dd, List.filter_cons, List.filter_nil, tab3, tab4, tab9, tab22, tab24, tab25, tab69, Dv.rows_length, eq_true hs0]
        all_goals first | omega | (simp_all <;> omega)
      · refine awp_region_draw' mixed ([]) ?_
        simp [fxs, fxOf, dstOK, guardA, runOp, calleeOf, effOp, effBin, AS.ev, AS.get, AS.obj, AS.app, AS.ups, AS.put, AS.behind, AS.rowsOf, AS.resC, AS.resCs, resCs_map, AS.resIV, AS.resArgs, AS.evParts, fillA, AS.fillRows, effCall, ivAV, ivAVs, avOf, acOf, A1.cells, C.flat, List.lookup, Fx.Holds, AS.behindRegion, AS.apps, thenA, inBlockA, InI64, splice, tab3, tab4, tab9, tab22, tab24, tab25, tab69, ints_length, hpg, Dv.rows_length, eq_false hs0]
        refine ⟨by kernel_rfl, ?_⟩
        repeat (refine ⟨by first | assumption | omega, ?_⟩)
        refine hK7 _ ⟨?_, ?_, ?_⟩ <;> simp [AS.get, AS.obj, List.lookup, dd, List.filter_cons, List.filter_nil, tab3, tab4, tab9, tab22, tab24, tab25, tab69, Dv.rows_length, eq_false hs0]
        all_goals first | omega | (simp_all <;> omega)
    intro s7 hs7
    simp [AS.cut, AS.get, AS.obj, List.lookup, dd, List.filter_cons, List.filter_nil, tab3, tab4, tab9, tab22, tab24, tab25, tab69] at hs7
    subst hs7
    refine awp_cond rfl (fun hb_t27 => ?_) (fun hb_t27 => ?_)
    · try simp at hb_t27
      have hfin : d.node path = none := by rw [← hI.1, List.drop_eq_getElem_cons hkp, Dv.node_out (by omega)]
      refine awp_seq_k fun K8 hK8 => ?_
      refine awp_region' ([]) ?_
      simp [fxs, fxOf, dstOK, guardA, runOp, calleeOf, effOp, effBin, AS.ev, AS.get, AS.obj, AS.app, AS.ups, AS.put, AS.behind, AS.rowsOf, AS.resC, AS.resCs, resCs_map, AS.resIV, AS.resArgs, AS.evParts, fillA, AS.fillRows, effCall, ivAV, ivAVs, avOf, acOf, A1.cells, C.flat, List.lookup, Fx.Holds, AS.behindRegion, AS.apps, thenA, inBlockA, InI64, splice, tab3, tab4, tab9, tab22, tab24, tab25, tab69]
      repeat (refine ⟨by first | assumption | omega, ?_⟩)
      apply hK8
      try clear hK8 K8
      refine awp_ret ?_
      try simp only [thenA, inBlockA]
      rw [← hQ]
      refine ⟨by first | exact .inl rfl | exact .inr rfl, ?_⟩
      simp [AS.result, AS.resVars, AS.resVar, AS.ivOf, AS.ivsOf, AS.resC, AS.resCs, resCs_map, C.flat, AS.get, AS.obj, AS.ups, AS.put, List.lookup, res36, tab3, tab4, tab9, tab22, tab24, tab25, tab69, hfin, Dv.zero, Dv.cells, Dv.rows]
    · try simp at hb_t27
      have hpl : path[k].toNat < ka.length := by omega
      have hrow := Dv.rows_get hpl
      have hclk := Dv.cells_length ka[path[k].toNat]
      refine awp_skip ?_
      try simp only [thenA, inBlockA]
      apply hK6
      try clear hK6 K6
      refine awp_region_draw' mixed ([]) ?_
      simp [fxs, fxOf, dstOK, guardA, runOp, calleeOf, effOp, effBin, AS.ev, AS.get, AS.obj, AS.app, AS.ups, AS.put, AS.behind, AS.rowsOf, AS.resC, AS.resCs, resCs_map, AS.resIV, AS.resArgs, AS.evParts, fillA, AS.fillRows, effCall, ivAV, ivAVs, avOf, acOf, A1.cells, C.flat, List.lookup, Fx.Holds, AS.behindRegion, AS.apps, thenA, inBlockA, InI64, splice, tab3, tab4, tab9, tab22, tab24, tab25, tab69, ints_length, hpg, Dv.rows_length, hrow, hclk]
      refine ⟨by kernel_rfl, ?_⟩
      repeat (refine ⟨by first | assumption | omega, ?_⟩)
      apply hK5
      try clear hK5 K5
      refine awp_region' ([]) ?_
      simp [fxs, fxOf, dstOK, guardA, runOp, calleeOf, effOp, effBin, AS.ev, AS.get, AS.obj, AS.app, AS.ups, AS.put, AS.behind, AS.rowsOf, AS.resC, AS.resCs, resCs_map, AS.resIV, AS.resArgs, AS.evParts, fillA, AS.fillRows, effCall, ivAV, ivAVs, avOf, acOf, A1.cells, C.flat, List.lookup, Fx.Holds, AS.behindRegion, AS.apps, thenA, inBlockA, InI64, splice, tab3, tab4, tab9, tab22, tab24, tab25, tab69]
      repeat (refine ⟨by first | assumption | omega, ?_⟩)
      refine hKL0 _ (ka[path[k].toNat]) (by omega) ?_ ?_
      · exact ⟨by rw [← hI.1, List.drop_eq_getElem_cons hkp, Dv.node_in (by omega) hpl], by have := Dv.nodes_mem (List.getElem_mem hpl); omega⟩
      · refine ⟨?_, ?_, ?_⟩ <;> simp [AS.get, AS.obj, List.lookup, dd, List.filter_cons, List.filter_nil, tab3, tab4, tab9, tab22, tab24, tab25, tab69]
  · try simp at hb_t10
    have hk2 : k = path.length := by omega
    subst hk2
    have hfin : d.node path = some (.mk ra ia ka) := by rw [← hI.1]; simp [Dv.node]
    refine awp_exit ?_
    try simp only [thenA, inBlockA, if_true, if_false, reduceIte, Nat.reduceEqDiff]
    apply hK1
    try clear hK1 K1
    refine awp_seq_k fun K9 hK9 => ?_
    refine awp_region' ([]) ?_
    simp [fxs, fxOf, dstOK, guardA, runOp, calleeOf, effOp, effBin, AS.ev, AS.get, AS.obj, AS.app, AS.ups, AS.put, AS.behind, AS.rowsOf, AS.resC, AS.resCs, resCs_map, AS.resIV, AS.resArgs, AS.evParts, fillA, AS.fillRows, effCall, ivAV, ivAVs, avOf, acOf, A1.cells, C.flat, List.lookup, Fx.Holds, AS.behindRegion, AS.apps, thenA, inBlockA, InI64, splice, tab3, tab4, tab9, tab22, tab24, tab25, tab69, hcl]
    repeat (refine ⟨by first | assumption | omega, ?_⟩)
    apply hK9
    try clear hK9 K9
    refine awp_ret ?_
    try simp only [thenA, inBlockA]
    rw [← hQ]
    refine ⟨by first | exact .inl rfl | exact .inr rfl, ?_⟩
    simp [AS.result, AS.resVars, AS.resVar, AS.ivOf, AS.ivsOf, AS.resC, AS.resCs, resCs_map, C.flat, AS.get, AS.obj, AS.ups, AS.put, List.lookup, res36, tab3, tab4, tab9, tab22, tab24, tab25, tab69, hfin, Dv.zero, Dv.cells, Dv.rows]
end Go.Proofs.Yteaglcbnkephgaa

namespace Go.Proofs.Yteaglcbnkephgaa
open Go Go.RowKit
theorem call44 : Callable Try.prog 44 := callable_of Try.func44 (by kernel_rfl) (by kernel_rfl)
theorem res44 : Try.f44.results.toList = [.tmp 0] := rfl
set_option maxHeartbeats 4000000 in
set_option maxRecDepth 100000 in
theorem wakes12  : ACalls Try.prog 44 [] (RV.v (.one (.bool true))) true := by
  have h35 : ACalls Try.prog 35 [.agg [.int 11, .int 0, .slice [[.int 1, .int 3, .slice []]]], .one (.slice [[.int 0]])] (.tup [.agg [.int 1, .int 3, .slice []], .one (.bool true)]) true := at_c (.mk 11 0 [.mk 1 3 []]) [0] (by decide) (by decide)
  have h46 : ACalls Try.prog 46 [.one (.int 7)] (.v (.one (.int 3))) true := dkids_c 7
  have h48 : ACalls Try.prog 48 [.one (.int 7), .one (.int 1)] (.v (.one (.bool true))) true := dinner_c 7 1
  have h45 : ACalls Try.prog 45 [.one (.int 28)] (.v (.one (.str ⟨#[120, 112, 97, 105, 114]⟩))) true := dword_c 28
  have h53 : ACalls Try.prog 53 [.one (.str ⟨#[99, 111, 110, 118, 115]⟩)] (.v (.one (.int 16))) true := by
    have h := drule_c ⟨#[99, 111, 110, 118, 115]⟩
    rwa [show drule ⟨#[99, 111, 110, 118, 115]⟩ = 16 by decide +kernel] at h
  have h37 : ACalls Try.prog 37 [.agg [.int 11, .int 0, .slice [[.int 1, .int 3, .slice []]]]] (.v (.one (.bool true))) true := right_c (.mk 11 0 [.mk 1 3 []])
  have h39 : ACalls Try.prog 39 [.agg [.int 11, .int 0, .slice [[.int 1, .int 3, .slice []]]]] (.v (.one (.int 2))) true := nodes_c (.mk 11 0 [.mk 1 3 []]) (by decide)
  have h41 : ACalls Try.prog 41 [.agg [.int 11, .int 0, .slice [[.int 1, .int 3, .slice []]]]] (.v (.one (.int 2))) true := deep_c (.mk 11 0 [.mk 1 3 []]) (by decide)
  have hstr : ((⟨#[120, 112, 97, 105, 114]⟩ : ByteArray).toList == (⟨#[120, 112, 97, 105, 114]⟩ : ByteArray).toList) = true := by decide +kernel
  refine acalls_of_awp Try.func44 rfl call44 false (by rw [Try.ntmps44]; simp) fun w0 S => ?_
  rw [Try.ntmps44]
  generalize hQ : Done Try.prog false Try.f44.results.toList (RV.v (.one (.bool true))) true = Q
  simp only [start, startEnv, argAV, Nat.zero_add, Nat.reduceAdd]
  refine awp_seq_k fun K0 hK0 => ?_
  refine awp_region' ([]) ?_
  simp [fxs, fxOf, dstOK, guardA, runOp, calleeOf, effOp, effBin, AS.ev, AS.get, AS.obj, AS.app, AS.ups, AS.put, AS.behind, AS.rowsOf, AS.resC, AS.resCs, resCs_map, AS.resIV, AS.resArgs, AS.evParts, fillA, AS.fillRows, effCall, ivAV, ivAVs, avOf, acOf, A1.cells, C.flat, List.lookup, Fx.Holds, AS.behindRegion, AS.apps, thenA, inBlockA, InI64, splice, tab3, tab4, tab9, tab22, tab24, tab25, tab69]
  repeat (refine ⟨by first | assumption | omega, ?_⟩)
  apply hK0
  try clear hK0 K0
  refine awp_seq_k fun K1 hK1 => ?_
  refine awp_region' ([]) ?_
  simp [fxs, fxOf, dstOK, guardA, runOp, calleeOf, effOp, effBin, AS.ev, AS.get, AS.obj, AS.app, AS.ups, AS.put, AS.behind, AS.rowsOf, AS.resC, AS.resCs, resCs_map, AS.resIV, AS.resArgs, AS.evParts, fillA, AS.fillRows, effCall, ivAV, ivAVs, avOf, acOf, A1.cells, C.flat, List.lookup, Fx.Holds, AS.behindRegion, AS.apps, thenA, inBlockA, InI64, splice, tab3, tab4, tab9, tab22, tab24, tab25, tab69]
  repeat (refine ⟨by first | assumption | omega, ?_⟩)
  apply hK1
  try clear hK1 K1
  refine awp_seq_k fun K2 hK2 => ?_
  refine awp_region' ([(2, .tup [.agg [.int 1, .int 3, .slice []], .one (.bool true)], true)]) ?_
  simp [fxs, fxOf, dstOK, guardA, runOp, calleeOf, effOp, effBin, AS.ev, AS.get, AS.obj, AS.app, AS.ups, AS.put, AS.behind, AS.rowsOf, AS.resC, AS.resCs, resCs_map, AS.resIV, AS.resArgs, AS.evParts, fillA, AS.fillRows, effCall, ivAV, ivAVs, avOf, acOf, A1.cells, C.flat, List.lookup, Fx.Holds, AS.behindRegion, AS.apps, thenA, inBlockA, InI64, splice, tab3, tab4, tab9, tab22, tab24, tab25, tab69, h35]
  repeat (refine ⟨by first | assumption | omega, ?_⟩)
  apply hK2
  try clear hK2 K2
  refine awp_seq_k fun K3 hK3 => ?_
  refine awp_region' ([(0, .v (.one (.int 3)), true), (3, .v (.one (.bool true)), true), (6, .v (.one (.str ⟨#[120, 112, 97, 105, 114]⟩)), true), (10, .v (.one (.int 16)), true), (15, .v (.one (.bool true)), true), (19, .v (.one (.int 2)), true), (24, .v (.one (.int 2)), true)]) ?_
  simp [fxs, fxOf, dstOK, guardA, runOp, calleeOf, effOp, effBin, AS.ev, AS.get, AS.obj, AS.app, AS.ups, AS.put, AS.behind, AS.rowsOf, AS.resC, AS.resCs, resCs_map, AS.resIV, AS.resArgs, AS.evParts, fillA, AS.fillRows, effCall, ivAV, ivAVs, avOf, acOf, A1.cells, C.flat, List.lookup, Fx.Holds, AS.behindRegion, AS.apps, thenA, inBlockA, InI64, splice, tab3, tab4, tab9, tab22, tab24, tab25, tab69, h46, h48, h45, h53, h37, h39, h41, hstr]
  repeat (refine ⟨by first | assumption | omega, ?_⟩)
  apply hK3
  try clear hK3 K3
  refine awp_ret ?_
  try simp only [thenA, inBlockA]
  rw [← hQ]
  refine ⟨by first | exact .inl rfl | exact .inr rfl, ?_⟩
  simp [AS.result, AS.resVars, AS.resVar, AS.ivOf, AS.ivsOf, AS.resC, AS.resCs, resCs_map, C.flat, AS.get, AS.obj, AS.ups, AS.put, List.lookup, res44, tab3, tab4, tab9, tab22, tab24, tab25, tab69]
theorem call3 : Callable Try.prog 3 := callable_of Try.func3 (by kernel_rfl) (by kernel_rfl)
theorem res3 : Try.f3.results.toList = [.tmp 4] := rfl
set_option maxHeartbeats 4000000 in
set_option maxRecDepth 100000 in
theorem derivExact_c (d : Dv) (path : List Int) : ACalls Try.prog 3 [IV.agg d.cells, .one (.slice (ints path))] (RV.v (.one (.bool true))) true := by
  obtain ⟨g, hgi, hg⟩ : ∃ g : Bool, (g = decide (600 < d.weigh 600 200)) ∧ ACalls Try.prog 34 [.agg d.cells, .one (.int 600)] (.v (.one (.bool g))) true := ⟨_, rfl, great_c d 600 (by omega) (by omega)⟩
  have hcl := Dv.cells_length d
  refine acalls_of_awp Try.func3 rfl call3 false (by rw [Try.ntmps3]; simp) fun w0 S => ?_
  rw [Try.ntmps3]
  generalize hQ : Done Try.prog false Try.f3.results.toList (RV.v (.one (.bool true))) true = Q
  simp only [start, startEnv, argAV, Nat.zero_add, Nat.reduceAdd]
  refine awp_seq_k fun K0 hK0 => ?_
  refine awp_region' ([]) ?_
  simp [fxs, fxOf, dstOK, guardA, runOp, calleeOf, effOp, effBin, AS.ev, AS.get, AS.obj, AS.app, AS.ups, AS.put, AS.behind, AS.rowsOf, AS.resC, AS.resCs, resCs_map, AS.resIV, AS.resArgs, AS.evParts, fillA, AS.fillRows, effCall, ivAV, ivAVs, avOf, acOf, A1.cells, C.flat, List.lookup, Fx.Holds, AS.behindRegion, AS.apps, thenA, inBlockA, InI64, splice, tab3, tab4, tab9, tab22, tab24, tab25, tab69, hcl]
  repeat (refine ⟨by first | assumption | omega, ?_⟩)
  apply hK0
  try clear hK0 K0
  refine awp_seq_k fun K1 hK1 => ?_
  refine awp_cut [1, 2] ([(15, bv (g || decide (300 < path.length)))]) ([]) ?_ ?_ ?_
  · simp [wfs, AV.wf, A1.wf, AC.wf, Ob.wf, Below', iv, bv, tab3, tab4, tab9, tab22, tab24, tab25, tab69]
  · intro K2 hK2
    cases hz1 : g
    · have hy1 := hg
      rw [hz1] at hy1
      refine awp_region' ([(1, .v (.one (.bool g)), true)]) ?_
      simp [fxs, fxOf, dstOK, guardA, runOp, calleeOf, effOp, effBin, AS.ev, AS.get, AS.obj, AS.app, AS.ups, AS.put, AS.behind, AS.rowsOf, AS.resC, AS.resCs, resCs_map, AS.resIV, AS.resArgs, AS.evParts, fillA, AS.fillRows, effCall, ivAV, ivAVs, avOf, acOf, A1.cells, C.flat, List.lookup, Fx.Holds, AS.behindRegion, AS.apps, thenA, inBlockA, InI64, splice, tab3, tab4, tab9, tab22, tab24, tab25, tab69, hcl, ints_length, hz1, hy1]
      repeat (refine ⟨by first | assumption | omega, ?_⟩)
      refine hK2 _ ⟨?_, ?_, ?_⟩ <;> simp [AS.get, AS.obj, List.lookup, dd, List.filter_cons, List.filter_nil, tab3, tab4, tab9, tab22, tab24, tab25, tab69, ints_length, hz1, hy1]
      all_goals first | omega | (simp_all <;> omega)
    · have hy1 := hg
      rw [hz1] at hy1
      refine awp_region' ([(1, .v (.one (.bool g)), true)]) ?_
      simp [fxs, fxOf, dstOK, guardA, runOp, calleeOf, effOp, effBin, AS.ev, AS.get, AS.obj, AS.app, AS.ups, AS.put, AS.behind, AS.rowsOf, AS.resC, AS.resCs, resCs_map, AS.resIV, AS.resArgs, AS.evParts, fillA, AS.fillRows, effCall, ivAV, ivAVs, avOf, acOf, A1.cells, C.flat, List.lookup, Fx.Holds, AS.behindRegion, AS.apps, thenA, inBlockA, InI64, splice, tab3, tab4, tab9, tab22, tab24, tab25, tab69, hcl, ints_length, hz1, hy1]
      repeat (refine ⟨by first | assumption | omega, ?_⟩)
      refine hK2 _ ⟨?_, ?_, ?_⟩ <;> simp [AS.get, AS.obj, List.lookup, dd, List.filter_cons, List.filter_nil, tab3, tab4, tab9, tab22, tab24, tab25, tab69, ints_length, hz1, hy1]
      all_goals first | omega | (simp_all <;> omega)
  intro s2 hs2
  simp [AS.cut, AS.get, AS.obj, List.lookup, dd, List.filter_cons, List.filter_nil, tab3, tab4, tab9, tab22, tab24, tab25, tab69] at hs2
  subst hs2
  refine awp_cond rfl (fun hb_t15 => ?_) (fun hb_t15 => ?_)
  · try simp at hb_t15
    refine awp_seq_k fun K3 hK3 => ?_
    refine awp_region' ([]) ?_
    simp [fxs, fxOf, dstOK, guardA, runOp, calleeOf, effOp, effBin, AS.ev, AS.get, AS.obj, AS.app, AS.ups, AS.put, AS.behind, AS.rowsOf, AS.resC, AS.resCs, resCs_map, AS.resIV, AS.resArgs, AS.evParts, fillA, AS.fillRows, effCall, ivAV, ivAVs, avOf, acOf, A1.cells, C.flat, List.lookup, Fx.Holds, AS.behindRegion, AS.apps, thenA, inBlockA, InI64, splice, tab3, tab4, tab9, tab22, tab24, tab25, tab69]
    repeat (refine ⟨by first | assumption | omega, ?_⟩)
    apply hK3
    try clear hK3 K3
    refine awp_ret ?_
    try simp only [thenA, inBlockA]
    rw [← hQ]
    refine ⟨by first | exact .inl rfl | exact .inr rfl, ?_⟩
    simp [AS.result, AS.resVars, AS.resVar, AS.ivOf, AS.ivsOf, AS.resC, AS.resCs, resCs_map, C.flat, AS.get, AS.obj, AS.ups, AS.put, List.lookup, res3, tab3, tab4, tab9, tab22, tab24, tab25, tab69]
  · try simp at hb_t15
    have hn := (Dv.great_nodes (d := d) (most := 600) (by omega) (by have := hb_t15.1; rw [this] at hgi; exact of_decide_eq_false hgi.symm)).1
    have h35 := at_c d path (by omega) (by omega)
    have h36 := at_r d path (by omega) (by omega)
    have h37 := right_c d
    have h38 := right_r d
    have h39 := nodes_c d (by omega)
    have h40 := nodes_r d (by omega)
    have h41 := deep_c d (by omega)
    have h42 := deep_r d (by omega)
    have hcn := Dv.cells_length ((d.node path).getD Dv.zero)
    have hnn : ((d.node path).getD Dv.zero).nodes < 4611686018427387904 := by
      cases hq : d.node path with
      | none => decide
      | some e => have := Dv.node_nodes hq; simp only [Option.getD_some]; omega
    have h43 := deriv_c ((d.node path).getD Dv.zero) hnn ((d.node path).getD Dv.zero)
    rw [Dv.same_refl] at h43
    refine awp_skip ?_
    try simp only [thenA, inBlockA]
    apply hK1
    try clear hK1 K1
    refine awp_seq_k fun K4 hK4 => ?_
    refine awp_region' ([(2, .tup [.agg ((d.node path).getD Dv.zero).cells, .one (.bool (d.node path).isSome)], true)]) ?_
    simp [fxs, fxOf, dstOK, guardA, runOp, calleeOf, effOp, effBin, AS.ev, AS.get, AS.obj, AS.app, AS.ups, AS.put, AS.behind, AS.rowsOf, AS.resC, AS.resCs, resCs_map, AS.resIV, AS.resArgs, AS.evParts, fillA, AS.fillRows, effCall, ivAV, ivAVs, avOf, acOf, A1.cells, C.flat, List.lookup, Fx.Holds, AS.behindRegion, AS.apps, thenA, inBlockA, InI64, splice, tab3, tab4, tab9, tab22, tab24, tab25, tab69, hcl, hcn, h35]
    repeat (refine ⟨by first | assumption | omega, ?_⟩)
    apply hK4
    try clear hK4 K4
    refine awp_seq_k fun K5 hK5 => ?_
    refine awp_region' ([(2, .tup [.agg ((d.node path).getD Dv.zero).cells, .one (.bool (d.node path).isSome)], false)]) ?_
    simp [fxs, fxOf, dstOK, guardA, runOp, calleeOf, effOp, effBin, AS.ev, AS.get, AS.obj, AS.app, AS.ups, AS.put, AS.behind, AS.rowsOf, AS.resC, AS.resCs, resCs_map, AS.resIV, AS.resArgs, AS.evParts, fillA, AS.fillRows, effCall, ivAV, ivAVs, avOf, acOf, A1.cells, C.flat, List.lookup, Fx.Holds, AS.behindRegion, AS.apps, thenA, inBlockA, InI64, splice, tab3, tab4, tab9, tab22, tab24, tab25, tab69, hcl, hcn, h36]
    repeat (refine ⟨by first | assumption | omega, ?_⟩)
    apply hK5
    try clear hK5 K5
    refine awp_seq_k fun K6 hK6 => ?_
    refine awp_region_draw' mixed ([(1, .v (.one (.bool d.right)), true), (3, .v (.one (.bool d.right)), true), (7, .v (.one (.int d.nodes)), true), (9, .v (.one (.int d.nodes)), true), (14, .v (.one (.int d.deep)), true), (16, .v (.one (.int d.deep)), true), (27, .v (.one (.bool true)), true), (30, .v (.one (.bool true)), true)]) ?_
    simp [fxs, fxOf, dstOK, guardA, runOp, calleeOf, effOp, effBin, AS.ev, AS.get, AS.obj, AS.app, AS.ups, AS.put, AS.behind, AS.rowsOf, AS.resC, AS.resCs, resCs_map, AS.resIV, AS.resArgs, AS.evParts, fillA, AS.fillRows, effCall, ivAV, ivAVs, avOf, acOf, A1.cells, C.flat, List.lookup, Fx.Holds, AS.behindRegion, AS.apps, thenA, inBlockA, InI64, splice, tab3, tab4, tab9, tab22, tab24, tab25, tab69, hcl, hcn, h37, h38, h39, h40, h41, h42, h43, wakes12]
    refine ⟨by kernel_rfl, ?_⟩
    repeat (refine ⟨by first | assumption | omega, ?_⟩)
    apply hK6
    try clear hK6 K6
    refine awp_ret ?_
    try simp only [thenA, inBlockA]
    rw [← hQ]
    refine ⟨by first | exact .inl rfl | exact .inr rfl, ?_⟩
    simp [AS.result, AS.resVars, AS.resVar, AS.ivOf, AS.ivsOf, AS.resC, AS.resCs, resCs_map, C.flat, AS.get, AS.obj, AS.ups, AS.put, List.lookup, res3, tab3, tab4, tab9, tab22, tab24, tab25, tab69]
end Go.Proofs.Yteaglcbnkephgaa

namespace Go.Proofs.Yteaglcbnkephgaa
open Go Go.RowKit
theorem drule_dword {r : Int} (h1 : 1 ≤ r) (h2 : r ≤ 28) : drule (dword r) = r := by
  obtain ⟨n, hn, rfl⟩ : ∃ n : Nat, n < 28 ∧ r = n + 1 := ⟨(r - 1).toNat, by omega, by omega⟩
  have h3 : ∀ n : Nat, n < 28 → drule (dword (n + 1)) = n + 1 := by decide +kernel
  exact h3 n hn
theorem dword_ne {r : Int} (h1 : 1 ≤ r) (h2 : r ≤ 28) : ((dword r).toList == (⟨#[]⟩ : ByteArray).toList) = false := by
  obtain ⟨n, hn, rfl⟩ : ∃ n : Nat, n < 28 ∧ r = n + 1 := ⟨(r - 1).toNat, by omega, by omega⟩
  have h3 : ∀ n : Nat, n < 28 → ((dword (n + 1)).toList == (⟨#[]⟩ : ByteArray).toList) = false := by decide +kernel
  exact h3 n hn
theorem call5 : Callable Try.prog 5 := callable_of Try.func5 (by kernel_rfl) (by kernel_rfl)
theorem res5 : Try.f5.results.toList = [.tmp 6] := rfl
set_option maxHeartbeats 4000000 in
set_option maxRecDepth 100000 in
theorem derivTable_c (r k : Int) (w : ByteArray) : ACalls Try.prog 5 [IV.one (.int r), .one (.int k), .one (.str w)] (RV.v (.one (.bool true))) true := by
  refine acalls_of_awp Try.func5 rfl call5 false (by rw [Try.ntmps5]; simp) fun w0 S => ?_
  rw [Try.ntmps5]
  generalize hQ : Done Try.prog false Try.f5.results.toList (RV.v (.one (.bool true))) true = Q
  simp only [start, startEnv, argAV, Nat.zero_add, Nat.reduceAdd]
  refine awp_seq_k fun K0 hK0 => ?_
  refine awp_region' ([]) ?_
  simp [fxs, fxOf, dstOK, guardA, runOp, calleeOf, effOp, effBin, AS.ev, AS.get, AS.obj, AS.app, AS.ups, AS.put, AS.behind, AS.rowsOf, AS.resC, AS.resCs, resCs_map, AS.resIV, AS.resArgs, AS.evParts, fillA, AS.fillRows, effCall, ivAV, ivAVs, avOf, acOf, A1.cells, C.flat, List.lookup, Fx.Holds, AS.behindRegion, AS.apps, thenA, inBlockA, InI64, splice, tab3, tab4, tab9, tab22, tab24, tab25, tab69, Try.underlying9]
  repeat (refine ⟨by first | assumption | omega, ?_⟩)
  apply hK0
  try clear hK0 K0
  refine awp_seq_k fun K1 hK1 => ?_
  refine awp_seq_k fun K2 hK2 => ?_
  refine awp_region' ([]) ?_
  simp [fxs, fxOf, dstOK, guardA, runOp, calleeOf, effOp, effBin, AS.ev, AS.get, AS.obj, AS.app, AS.ups, AS.put, AS.behind, AS.rowsOf, AS.resC, AS.resCs, resCs_map, AS.resIV, AS.resArgs, AS.evParts, fillA, AS.fillRows, effCall, ivAV, ivAVs, avOf, acOf, A1.cells, C.flat, List.lookup, Fx.Holds, AS.behindRegion, AS.apps, thenA, inBlockA, InI64, splice, tab3, tab4, tab9, tab22, tab24, tab25, tab69, Try.underlying9]
  repeat (refine ⟨by first | assumption | omega, ?_⟩)
  apply hK2
  try clear hK2 K2
  refine awp_cond rfl (fun hb_t10 => ?_) (fun hb_t10 => ?_)
  · try simp at hb_t10
    refine awp_seq_k fun K3 hK3 => ?_
    refine awp_region' ([]) ?_
    simp [fxs, fxOf, dstOK, guardA, runOp, calleeOf, effOp, effBin, AS.ev, AS.get, AS.obj, AS.app, AS.ups, AS.put, AS.behind, AS.rowsOf, AS.resC, AS.resCs, resCs_map, AS.resIV, AS.resArgs, AS.evParts, fillA, AS.fillRows, effCall, ivAV, ivAVs, avOf, acOf, A1.cells, C.flat, List.lookup, Fx.Holds, AS.behindRegion, AS.apps, thenA, inBlockA, InI64, splice, tab3, tab4, tab9, tab22, tab24, tab25, tab69, Try.underlying9]
    repeat (refine ⟨by first | assumption | omega, ?_⟩)
    apply hK3
    try clear hK3 K3
    refine awp_ret ?_
    try simp only [thenA, inBlockA]
    rw [← hQ]
    refine ⟨by first | exact .inl rfl | exact .inr rfl, ?_⟩
    simp [AS.result, AS.resVars, AS.resVar, AS.ivOf, AS.ivsOf, AS.resC, AS.resCs, resCs_map, C.flat, AS.get, AS.obj, AS.ups, AS.put, List.lookup, res5, tab3, tab4, tab9, tab22, tab24, tab25, tab69, Try.underlying9]
  · try simp at hb_t10
    refine awp_skip ?_
    try simp only [thenA, inBlockA]
    apply hK1
    try clear hK1 K1
    refine awp_seq_k fun K4 hK4 => ?_
    refine awp_region' ([(1, .v (.one (.str (dword r))), true)]) ?_
    simp [fxs, fxOf, dstOK, guardA, runOp, calleeOf, effOp, effBin, AS.ev, AS.get, AS.obj, AS.app, AS.ups, AS.put, AS.behind, AS.rowsOf, AS.resC, AS.resCs, resCs_map, AS.resIV, AS.resArgs, AS.evParts, fillA, AS.fillRows, effCall, ivAV, ivAVs, avOf, acOf, A1.cells, C.flat, List.lookup, Fx.Holds, AS.behindRegion, AS.apps, thenA, inBlockA, InI64, splice, tab3, tab4, tab9, tab22, tab24, tab25, tab69, Try.underlying9, dword_c]
    repeat (refine ⟨by first | assumption | omega, ?_⟩)
    apply hK4
    try clear hK4 K4
    refine awp_seq_k fun K5 hK5 => ?_
    cases hz1 : (decide (1 ≤ r) && decide (r ≤ 28))
    · have hy1 : True := trivial
      have hd1 : ((dword r).toList == (⟨#[]⟩ : ByteArray).toList) = true := by
        rw [dword_out (by simp at hz1; omega)]
        simp
      have hd3 : (dword r).toList.isEmpty = true := by simpa using hd1
      have hd2 := True.intro
      refine awp_region' ([(1, .v (.one (.int (dkids r))), true), (3, .v (.one (.int (dkids r))), true), (8, .v (.one (.bool (dinner r k))), true), (11, .v (.one (.bool (dinner r k))), true), (16, .v (.one (.bool (dequal r))), true), (18, .v (.one (.bool (dequal r))), true), (24, .v (.one (.str (dword r))), true), (29, .v (.one (.int (drule w))), true), (31, .v (.one (.int (drule w))), true), (39, .v (.one (.int r)), true), (45, .v (.one (.bool true)), true)]) ?_
      simp [fxs, fxOf, dstOK, guardA, runOp, calleeOf, effOp, effBin, AS.ev, AS.get, AS.obj, AS.app, AS.ups, AS.put, AS.behind, AS.rowsOf, AS.resC, AS.resCs, resCs_map, AS.resIV, AS.resArgs, AS.evParts, fillA, AS.fillRows, effCall, ivAV, ivAVs, avOf, acOf, A1.cells, C.flat, List.lookup, Fx.Holds, AS.behindRegion, AS.apps, thenA, inBlockA, InI64, splice, tab3, tab4, tab9, tab22, tab24, tab25, tab69, Try.underlying9, dkids_c, dkids_r, dinner_c, dinner_r, dequal_c, dequal_r, dword_r, drule_c, drule_r, wakes12, hd1, hd2, hd3, hz1, hy1]
      repeat (refine ⟨by first | assumption | omega, ?_⟩)
      apply hK5
      try clear hK5 K5
      refine awp_ret ?_
      try simp only [thenA, inBlockA]
      rw [← hQ]
      refine ⟨by first | exact .inl rfl | exact .inr rfl, ?_⟩
      simp [AS.result, AS.resVars, AS.resVar, AS.ivOf, AS.ivsOf, AS.resC, AS.resCs, resCs_map, C.flat, AS.get, AS.obj, AS.ups, AS.put, List.lookup, res5, tab3, tab4, tab9, tab22, tab24, tab25, tab69, Try.underlying9]
    · have hy1 : True := trivial
      have hr : 1 ≤ r ∧ r ≤ 28 := by simpa using hz1
      have hd1 := dword_ne hr.1 hr.2
      have hd3 : (dword r).toList.isEmpty = false := by simpa using hd1
      have hd2 := drule_c (dword r)
      rw [drule_dword hr.1 hr.2] at hd2
      refine awp_region' ([(1, .v (.one (.int (dkids r))), true), (3, .v (.one (.int (dkids r))), true), (8, .v (.one (.bool (dinner r k))), true), (11, .v (.one (.bool (dinner r k))), true), (16, .v (.one (.bool (dequal r))), true), (18, .v (.one (.bool (dequal r))), true), (24, .v (.one (.str (dword r))), true), (29, .v (.one (.int (drule w))), true), (31, .v (.one (.int (drule w))), true), (39, .v (.one (.int r)), true), (45, .v (.one (.bool true)), true)]) ?_
      simp [fxs, fxOf, dstOK, guardA, runOp, calleeOf, effOp, effBin, AS.ev, AS.get, AS.obj, AS.app, AS.ups, AS.put, AS.behind, AS.rowsOf, AS.resC, AS.resCs, resCs_map, AS.resIV, AS.resArgs, AS.evParts, fillA, AS.fillRows, effCall, ivAV, ivAVs, avOf, acOf, A1.cells, C.flat, List.lookup, Fx.Holds, AS.behindRegion, AS.apps, thenA, inBlockA, InI64, splice, tab3, tab4, tab9, tab22, tab24, tab25, tab69, Try.underlying9, dkids_c, dkids_r, dinner_c, dinner_r, dequal_c, dequal_r, dword_r, drule_c, drule_r, wakes12, hd1, hd2, hd3, hz1, hy1]
      repeat (refine ⟨by first | assumption | omega, ?_⟩)
      apply hK5
      try clear hK5 K5
      refine awp_ret ?_
      try simp only [thenA, inBlockA]
      rw [← hQ]
      refine ⟨by first | exact .inl rfl | exact .inr rfl, ?_⟩
      simp [AS.result, AS.resVars, AS.resVar, AS.ivOf, AS.ivsOf, AS.resC, AS.resCs, resCs_map, C.flat, AS.get, AS.obj, AS.ups, AS.put, List.lookup, res5, tab3, tab4, tab9, tab22, tab24, tab25, tab69, Try.underlying9]
end Go.Proofs.Yteaglcbnkephgaa

namespace Go.Proofs.Yteaglcbnkephgaa
open Go Go.RowKit
theorem Dv.rows_take {ks : List Dv} {k : Nat} (h : k < ks.length) : (Dv.rows ks).take (k + 1) = (Dv.rows ks).take k ++ [ks[k].cells] := by
  rw [List.take_add_one]
  congr 1
  rw [Dv.rows_eq]
  simp [h]
theorem Dv.rows_full (ks : List Dv) : (Dv.rows ks).take ks.length = Dv.rows ks := by rw [← Dv.rows_length, List.take_length]
theorem call111 : Callable Try.prog 111 := callable_of Try.func111 (by kernel_rfl) (by kernel_rfl)
theorem res111 : Try.f111.results.toList = [.tmp 2] := rfl
set_option maxHeartbeats 4000000 in
set_option maxRecDepth 100000 in
theorem twins_step (ks : List Dv) (hb : ks.length < 1000000) (ih : ∀ k ∈ ks, ACalls Try.prog 56 [.agg k.cells] (.v (.agg k.cells)) true) : ACalls Try.prog 111 [IV.one (.slice (Dv.rows ks))] (RV.v (.one (.slice (Dv.rows ks)))) true := by
  have htk0 : (Dv.rows ks).take 0 = [] := rfl
  refine acalls_of_awp Try.func111 rfl call111 false (by rw [Try.ntmps111]; simp) fun w0 S => ?_
  rw [Try.ntmps111]
  generalize hQ : Done Try.prog false Try.f111.results.toList (RV.v (.one (.slice (Dv.rows ks)))) true = Q
  simp only [start, startEnv, argAV, Nat.zero_add, Nat.reduceAdd]
  refine awp_seq_k fun K0 hK0 => ?_
  refine awp_region' ([]) ?_
  simp [fxs, fxOf, dstOK, guardA, runOp, calleeOf, effOp, effBin, AS.ev, AS.get, AS.obj, AS.app, AS.ups, AS.put, AS.behind, AS.rowsOf, AS.resC, AS.resCs, resCs_map, AS.resIV, AS.resArgs, AS.evParts, fillA, AS.fillRows, effCall, ivAV, ivAVs, avOf, acOf, A1.cells, C.flat, List.lookup, Fx.Holds, AS.behindRegion, AS.apps, thenA, inBlockA, InI64, splice, tab3, tab4, tab9, tab22, tab24, tab25, tab69]
  repeat (refine ⟨by first | assumption | omega, ?_⟩)
  apply hK0
  try clear hK0 K0
  refine awp_seq_k fun K1 hK1 => ?_
  refine awp_region' ([]) ?_
  simp [fxs, fxOf, dstOK, guardA, runOp, calleeOf, effOp, effBin, AS.ev, AS.get, AS.obj, AS.app, AS.ups, AS.put, AS.behind, AS.rowsOf, AS.resC, AS.resCs, resCs_map, AS.resIV, AS.resArgs, AS.evParts, fillA, AS.fillRows, effCall, ivAV, ivAVs, avOf, acOf, A1.cells, C.flat, List.lookup, Fx.Holds, AS.behindRegion, AS.apps, thenA, inBlockA, InI64, splice, tab3, tab4, tab9, tab22, tab24, tab25, tab69]
  repeat (refine ⟨by first | assumption | omega, ?_⟩)
  apply hK1
  try clear hK1 K1
  refine awp_seq_k fun K2 hK2 => ?_
  refine awp_seq_k fun K3 hK3 => ?_
  refine awp_region' ([]) ?_
  simp [fxs, fxOf, dstOK, guardA, runOp, calleeOf, effOp, effBin, AS.ev, AS.get, AS.obj, AS.app, AS.ups, AS.put, AS.behind, AS.rowsOf, AS.resC, AS.resCs, resCs_map, AS.resIV, AS.resArgs, AS.evParts, fillA, AS.fillRows, effCall, ivAV, ivAVs, avOf, acOf, A1.cells, C.flat, List.lookup, Fx.Holds, AS.behindRegion, AS.apps, thenA, inBlockA, InI64, splice, tab3, tab4, tab9, tab22, tab24, tab25, tab69]
  repeat (refine ⟨by first | assumption | omega, ?_⟩)
  apply hK3
  try clear hK3 K3
  refine awp_block ?_
  refine awp_nil_row 3 24 3 (by simp [AS.get, AS.obj, List.lookup, dd, List.filter_cons, List.filter_nil, tab3, tab4, tab9, tab22, tab24, tab25, tab69]) (by omega) ?_
  intro sn0 hsn0
  simp [AS.nilRow] at hsn0
  subst hsn0
  refine awp_roundR (A := Unit) 3 (ks.length) (fun k a => True) [0] (fun k a => [(3, .v (.one (.arr 3))), (4, iv k)]) (fun k a => [(3, some (.row 24 3 ((Dv.rows ks).take k) true))]) (()) ?_ ?_ ?_ ?_
  · trivial
  · refine ⟨?_, ?_, ?_⟩ <;> simp [AS.get, AS.obj, List.lookup, dd, List.filter_cons, List.filter_nil, tab3, tab4, tab9, tab22, tab24, tab25, tab69, htk0]
  · intro k a; simp [wfs, AV.wf, A1.wf, AC.wf, Ob.wf, Below', iv, bv, tab3, tab4, tab9, tab22, tab24, tab25, tab69]
  intro k a KL0 hk hI hKL0 sl hsl
  simp [AS.cut, AS.get, AS.obj, List.lookup, dd, List.filter_cons, List.filter_nil, tab3, tab4, tab9, tab22, tab24, tab25, tab69] at hsl
  subst hsl
  refine awp_seq_k fun K4 hK4 => ?_
  refine awp_seq_k fun K5 hK5 => ?_
  refine awp_region' ([]) ?_
  simp [fxs, fxOf, dstOK, guardA, runOp, calleeOf, effOp, effBin, AS.ev, AS.get, AS.obj, AS.app, AS.ups, AS.put, AS.behind, AS.rowsOf, AS.resC, AS.resCs, resCs_map, AS.resIV, AS.resArgs, AS.evParts, fillA, AS.fillRows, effCall, ivAV, ivAVs, avOf, acOf, A1.cells, C.flat, List.lookup, Fx.Holds, AS.behindRegion, AS.apps, thenA, inBlockA, InI64, splice, tab3, tab4, tab9, tab22, tab24, tab25, tab69, Dv.rows_length]
  repeat (refine ⟨by first | assumption | omega, ?_⟩)
  apply hK5
  try clear hK5 K5
  refine awp_cond rfl (fun hb_t8 => ?_) (fun hb_t8 => ?_)
  · try simp at hb_t8
    have hrow := Dv.rows_get hb_t8
    have hcl := Dv.cells_length ks[k]
    have hmem : ks[k] ∈ ks := List.getElem_mem _
    have hc := ih ks[k] hmem
    have htk := (Dv.rows_take hb_t8).symm
    have htl : ((Dv.rows ks).take k).length = k := by simp [Dv.rows_length]; omega
    refine awp_skip ?_
    try simp only [thenA, inBlockA]
    apply hK4
    try clear hK4 K4
    refine awp_seq_k fun K6 hK6 => ?_
    refine awp_block ?_
    refine awp_region' ([(5, .v (.agg ks[k].cells), true)]) ?_
    simp [fxs, fxOf, dstOK, guardA, runOp, calleeOf, effOp, effBin, AS.ev, AS.get, AS.obj, AS.app, AS.ups, AS.put, AS.behind, AS.rowsOf, AS.resC, AS.resCs, resCs_map, AS.resIV, AS.resArgs, AS.evParts, fillA, AS.fillRows, effCall, ivAV, ivAVs, avOf, acOf, A1.cells, C.flat, List.lookup, Fx.Holds, AS.behindRegion, AS.apps, thenA, inBlockA, InI64, splice, tab3, tab4, tab9, tab22, tab24, tab25, tab69, Dv.rows_length, hrow, hcl, hc, htk]
    repeat (refine ⟨by first | assumption | omega, ?_⟩)
    apply hK6
    try clear hK6 K6
    refine awp_region' ([]) ?_
    simp [fxs, fxOf, dstOK, guardA, runOp, calleeOf, effOp, effBin, AS.ev, AS.get, AS.obj, AS.app, AS.ups, AS.put, AS.behind, AS.rowsOf, AS.resC, AS.resCs, resCs_map, AS.resIV, AS.resArgs, AS.evParts, fillA, AS.fillRows, effCall, ivAV, ivAVs, avOf, acOf, A1.cells, C.flat, List.lookup, Fx.Holds, AS.behindRegion, AS.apps, thenA, inBlockA, InI64, splice, tab3, tab4, tab9, tab22, tab24, tab25, tab69]
    repeat (refine ⟨by first | assumption | omega, ?_⟩)
    refine hKL0 15 _ (()) (by omega) ?_ ?_
    · trivial
    · refine ⟨?_, ?_, ?_, ?_⟩ <;> simp [AS.get, AS.obj, List.lookup, dd, List.filter_cons, List.filter_nil, ren1, AV.ren, A1.ren, AC.ren, Ob.ren, iv, bv, tab3, tab4, tab9, tab22, tab24, tab25, tab69, htk0]
  · try simp at hb_t8
    have hk2 : k = ks.length := by omega
    subst hk2
    refine awp_exit ?_
    try simp only [thenA, inBlockA, if_true, if_false, reduceIte, Nat.reduceEqDiff]
    apply hK2
    try clear hK2 K2
    refine awp_seq_k fun K7 hK7 => ?_
    refine awp_region' ([]) ?_
    simp [fxs, fxOf, dstOK, guardA, runOp, calleeOf, effOp, effBin, AS.ev, AS.get, AS.obj, AS.app, AS.ups, AS.put, AS.behind, AS.rowsOf, AS.resC, AS.resCs, resCs_map, AS.resIV, AS.resArgs, AS.evParts, fillA, AS.fillRows, effCall, ivAV, ivAVs, avOf, acOf, A1.cells, C.flat, List.lookup, Fx.Holds, AS.behindRegion, AS.apps, thenA, inBlockA, InI64, splice, tab3, tab4, tab9, tab22, tab24, tab25, tab69]
    repeat (refine ⟨by first | assumption | omega, ?_⟩)
    apply hK7
    try clear hK7 K7
    refine awp_ret ?_
    try simp only [thenA, inBlockA]
    rw [← hQ]
    refine ⟨by first | exact .inl rfl | exact .inr rfl, ?_⟩
    simp [AS.result, AS.resVars, AS.resVar, AS.ivOf, AS.ivsOf, AS.resC, AS.resCs, resCs_map, C.flat, AS.get, AS.obj, AS.ups, AS.put, List.lookup, res111, tab3, tab4, tab9, tab22, tab24, tab25, tab69, Dv.rows_full]
end Go.Proofs.Yteaglcbnkephgaa

namespace Go.Proofs.Yteaglcbnkephgaa
open Go Go.RowKit
mutual
theorem Dv.same_eq : ∀ (a b : Dv), a.same b = true → a = b
  | .mk r i ks, .mk r' i' ks', h => by
    simp only [Dv.same, Bool.and_eq_true, decide_eq_true_eq] at h
    rw [h.1.1, h.1.2, Dv.sames_eq ks ks' h.2]
theorem Dv.sames_eq : ∀ (as' bs : List Dv), Dv.sames as' bs = true → as' = bs
  | [], [], _ => rfl
  | a :: as', b :: bs, h => by
    simp only [Dv.sames, Bool.and_eq_true] at h
    rw [Dv.same_eq a b h.1, Dv.sames_eq as' bs h.2]
  | [], _ :: _, h => by simp [Dv.sames] at h
  | _ :: _, [], h => by simp [Dv.sames] at h
end
theorem Dv.same_symm (a b : Dv) : b.same a = a.same b := by
  cases h : a.same b with
  | true => rw [Dv.same_eq a b h, Dv.same_refl]
  | false =>
    cases h' : b.same a with
    | true => rw [Dv.same_eq b a h', Dv.same_refl] at h; cases h
    | false => rfl
theorem call56 : Callable Try.prog 56 := callable_of Try.func56 (by kernel_rfl) (by kernel_rfl)
theorem res56 : Try.f56.results.toList = [.cell 2 24] := rfl
set_option maxHeartbeats 4000000 in
set_option maxRecDepth 100000 in
theorem twin_step (r i : Int) (ks : List Dv) (h : ACalls Try.prog 111 [.one (.slice (Dv.rows ks))] (.v (.one (.slice (Dv.rows ks)))) true) : ACalls Try.prog 56 [.agg (Dv.mk r i ks).cells] (RV.v (.agg (Dv.mk r i ks).cells)) true := by
  refine acalls_of_awp Try.func56 rfl call56 false (by rw [Try.ntmps56]; simp) fun w0 S => ?_
  rw [Try.ntmps56]
  generalize hQ : Done Try.prog false Try.f56.results.toList (RV.v (.agg (Dv.mk r i ks).cells)) true = Q
  simp only [start, startEnv, argAV, Nat.zero_add, Nat.reduceAdd, Dv.cells, List.map_cons, List.map_nil]
  refine awp_seq_k fun K0 hK0 => ?_
  refine awp_region' ([]) ?_
  simp [fxs, fxOf, dstOK, guardA, runOp, calleeOf, effOp, effBin, AS.ev, AS.get, AS.obj, AS.app, AS.ups, AS.put, AS.behind, AS.rowsOf, AS.resC, AS.resCs, resCs_map, AS.resIV, AS.resArgs, AS.evParts, fillA, AS.fillRows, effCall, ivAV, ivAVs, avOf, acOf, A1.cells, C.flat, List.lookup, Fx.Holds, AS.behindRegion, AS.apps, thenA, inBlockA, InI64, splice, tab3, tab4, tab9, tab22, tab24, tab25, tab69]
  repeat (refine ⟨by first | assumption | omega, ?_⟩)
  apply hK0
  try clear hK0 K0
  refine awp_seq_k fun K1 hK1 => ?_
  refine awp_region_draw' mixed ([(6, .v (.one (.slice (Dv.rows ks))), true)]) ?_
  simp [fxs, fxOf, dstOK, guardA, runOp, calleeOf, effOp, effBin, AS.ev, AS.get, AS.obj, AS.app, AS.ups, AS.put, AS.behind, AS.rowsOf, AS.resC, AS.resCs, resCs_map, AS.resIV, AS.resArgs, AS.evParts, fillA, AS.fillRows, effCall, ivAV, ivAVs, avOf, acOf, A1.cells, C.flat, List.lookup, Fx.Holds, AS.behindRegion, AS.apps, thenA, inBlockA, InI64, splice, tab3, tab4, tab9, tab22, tab24, tab25, tab69, h]
  refine ⟨by kernel_rfl, ?_⟩
  repeat (refine ⟨by first | assumption | omega, ?_⟩)
  apply hK1
  try clear hK1 K1
  refine awp_ret ?_
  try simp only [thenA, inBlockA]
  rw [← hQ]
  refine ⟨by first | exact .inl rfl | exact .inr rfl, ?_⟩
  simp [AS.result, AS.resVars, AS.resVar, AS.ivOf, AS.ivsOf, AS.resC, AS.resCs, resCs_map, C.flat, AS.get, AS.obj, AS.ups, AS.put, List.lookup, res56, tab3, tab4, tab9, tab22, tab24, tab25, tab69, Dv.cells]
theorem twin_c (d : Dv) (hb : d.nodes < 1000000) : ACalls Try.prog 56 [.agg d.cells] (.v (.agg d.cells)) true := by
  revert hb
  induction d using Dv.ind with
  | h r i ks ih =>
    intro hb
    simp only [Dv.nodes] at hb
    have := Dv.length_le ks
    exact twin_step r i ks (twins_step ks (by omega) fun k hk => ih k hk (by have := Dv.nodes_mem hk; omega))
theorem call6 : Callable Try.prog 6 := callable_of Try.func6 (by kernel_rfl) (by kernel_rfl)
theorem res6 : Try.f6.results.toList = [.tmp 4] := rfl
set_option maxHeartbeats 4000000 in
set_option maxRecDepth 100000 in
theorem derivSame_c (a b : Dv) : ACalls Try.prog 6 [IV.agg a.cells, .agg b.cells] (RV.v (.one (.bool true))) true := by
  obtain ⟨ga, hgia, hga⟩ : ∃ g : Bool, (g = decide (600 < a.weigh 600 200)) ∧ ACalls Try.prog 34 [.agg a.cells, .one (.int 600)] (.v (.one (.bool g))) true := ⟨_, rfl, great_c a 600 (by omega) (by omega)⟩
  have hcla := Dv.cells_length a
  obtain ⟨gb, hgib, hgb⟩ : ∃ g : Bool, (g = decide (600 < b.weigh 600 200)) ∧ ACalls Try.prog 34 [.agg b.cells, .one (.int 600)] (.v (.one (.bool g))) true := ⟨_, rfl, great_c b 600 (by omega) (by omega)⟩
  have hclb := Dv.cells_length b
  refine acalls_of_awp Try.func6 rfl call6 false (by rw [Try.ntmps6]; simp) fun w0 S => ?_
  rw [Try.ntmps6]
  generalize hQ : Done Try.prog false Try.f6.results.toList (RV.v (.one (.bool true))) true = Q
  simp only [start, startEnv, argAV, Nat.zero_add, Nat.reduceAdd]
  refine awp_seq_k fun K0 hK0 => ?_
  refine awp_region' ([]) ?_
  simp [fxs, fxOf, dstOK, guardA, runOp, calleeOf, effOp, effBin, AS.ev, AS.get, AS.obj, AS.app, AS.ups, AS.put, AS.behind, AS.rowsOf, AS.resC, AS.resCs, resCs_map, AS.resIV, AS.resArgs, AS.evParts, fillA, AS.fillRows, effCall, ivAV, ivAVs, avOf, acOf, A1.cells, C.flat, List.lookup, Fx.Holds, AS.behindRegion, AS.apps, thenA, inBlockA, InI64, splice, tab3, tab4, tab9, tab22, tab24, tab25, tab69, hcla, hclb]
  repeat (refine ⟨by first | assumption | omega, ?_⟩)
  apply hK0
  try clear hK0 K0
  refine awp_seq_k fun K1 hK1 => ?_
  refine awp_cut [2, 3] ([(11, bv (ga || gb))]) ([]) ?_ ?_ ?_
  · simp [wfs, AV.wf, A1.wf, AC.wf, Ob.wf, Below', iv, bv, tab3, tab4, tab9, tab22, tab24, tab25, tab69]
  · intro K2 hK2
    cases hz1 : ga
    · have hy1 := hga
      rw [hz1] at hy1
      cases hz2 : gb
      · have hy2 := hgb
        rw [hz2] at hy2
        refine awp_region' ([(1, .v (.one (.bool ga)), true), (4, .v (.one (.bool gb)), true)]) ?_
        simp [fxs, fxOf, dstOK, guardA, runOp, calleeOf, effOp, effBin, AS.ev, AS.get, AS.obj, AS.app, AS.ups, AS.put, AS.behind, AS.rowsOf, AS.resC, AS.resCs, resCs_map, AS.resIV, AS.resArgs, AS.evParts, fillA, AS.fillRows, effCall, ivAV, ivAVs, avOf, acOf, A1.cells, C.flat, List.lookup, Fx.Holds, AS.behindRegion, AS.apps, thenA, inBlockA, InI64, splice, tab3, tab4, tab9, tab22, tab24, tab25, tab69, hcla, hclb, hz1, hy1, hz2, hy2]
        repeat (refine ⟨by first | assumption | omega, ?_⟩)
        refine hK2 _ ⟨?_, ?_, ?_⟩ <;> simp [AS.get, AS.obj, List.lookup, dd, List.filter_cons, List.filter_nil, tab3, tab4, tab9, tab22, tab24, tab25, tab69, hz1, hy1, hz2, hy2]
        all_goals first | omega | (simp_all <;> omega)
      · have hy2 := hgb
        rw [hz2] at hy2
        refine awp_region' ([(1, .v (.one (.bool ga)), true), (4, .v (.one (.bool gb)), true)]) ?_
        simp [fxs, fxOf, dstOK, guardA, runOp, calleeOf, effOp, effBin, AS.ev, AS.get, AS.obj, AS.app, AS.ups, AS.put, AS.behind, AS.rowsOf, AS.resC, AS.resCs, resCs_map, AS.resIV, AS.resArgs, AS.evParts, fillA, AS.fillRows, effCall, ivAV, ivAVs, avOf, acOf, A1.cells, C.flat, List.lookup, Fx.Holds, AS.behindRegion, AS.apps, thenA, inBlockA, InI64, splice, tab3, tab4, tab9, tab22, tab24, tab25, tab69, hcla, hclb, hz1, hy1, hz2, hy2]
        repeat (refine ⟨by first | assumption | omega, ?_⟩)
        refine hK2 _ ⟨?_, ?_, ?_⟩ <;> simp [AS.get, AS.obj, List.lookup, dd, List.filter_cons, List.filter_nil, tab3, tab4, tab9, tab22, tab24, tab25, tab69, hz1, hy1, hz2, hy2]
        all_goals first | omega | (simp_all <;> omega)
    · have hy1 := hga
      rw [hz1] at hy1
      refine awp_region' ([(1, .v (.one (.bool ga)), true), (4, .v (.one (.bool gb)), true)]) ?_
      simp [fxs, fxOf, dstOK, guardA, runOp, calleeOf, effOp, effBin, AS.ev, AS.get, AS.obj, AS.app, AS.ups, AS.put, AS.behind, AS.rowsOf, AS.resC, AS.resCs, resCs_map, AS.resIV, AS.resArgs, AS.evParts, fillA, AS.fillRows, effCall, ivAV, ivAVs, avOf, acOf, A1.cells, C.flat, List.lookup, Fx.Holds, AS.behindRegion, AS.apps, thenA, inBlockA, InI64, splice, tab3, tab4, tab9, tab22, tab24, tab25, tab69, hcla, hclb, hz1, hy1]
      repeat (refine ⟨by first | assumption | omega, ?_⟩)
      refine hK2 _ ⟨?_, ?_, ?_⟩ <;> simp [AS.get, AS.obj, List.lookup, dd, List.filter_cons, List.filter_nil, tab3, tab4, tab9, tab22, tab24, tab25, tab69, hz1, hy1]
      all_goals first | omega | (simp_all <;> omega)
  intro s2 hs2
  simp [AS.cut, AS.get, AS.obj, List.lookup, dd, List.filter_cons, List.filter_nil, tab3, tab4, tab9, tab22, tab24, tab25, tab69] at hs2
  subst hs2
  refine awp_cond rfl (fun hb_t11 => ?_) (fun hb_t11 => ?_)
  · try simp at hb_t11
    refine awp_seq_k fun K3 hK3 => ?_
    refine awp_region' ([]) ?_
    simp [fxs, fxOf, dstOK, guardA, runOp, calleeOf, effOp, effBin, AS.ev, AS.get, AS.obj, AS.app, AS.ups, AS.put, AS.behind, AS.rowsOf, AS.resC, AS.resCs, resCs_map, AS.resIV, AS.resArgs, AS.evParts, fillA, AS.fillRows, effCall, ivAV, ivAVs, avOf, acOf, A1.cells, C.flat, List.lookup, Fx.Holds, AS.behindRegion, AS.apps, thenA, inBlockA, InI64, splice, tab3, tab4, tab9, tab22, tab24, tab25, tab69]
    repeat (refine ⟨by first | assumption | omega, ?_⟩)
    apply hK3
    try clear hK3 K3
    refine awp_ret ?_
    try simp only [thenA, inBlockA]
    rw [← hQ]
    refine ⟨by first | exact .inl rfl | exact .inr rfl, ?_⟩
    simp [AS.result, AS.resVars, AS.resVar, AS.ivOf, AS.ivsOf, AS.resC, AS.resCs, resCs_map, C.flat, AS.get, AS.obj, AS.ups, AS.put, List.lookup, res6, tab3, tab4, tab9, tab22, tab24, tab25, tab69]
  · try simp at hb_t11
    have h1 := (Dv.great_nodes (d := a) (most := 600) (by omega) (by have := hb_t11.1; rw [this] at hgia; exact of_decide_eq_false hgia.symm)).1
    have h2 := (Dv.great_nodes (d := b) (most := 600) (by omega) (by have := hb_t11.2; rw [this] at hgib; exact of_decide_eq_false hgib.symm)).1
    obtain ⟨x, hxn, hx⟩ : ∃ x : Bool, (x = true → a.nodes = b.nodes) ∧ ACalls Try.prog 55 [.agg a.cells, .agg b.cells] (.v (.one (.bool x))) true ∧ ACalls Try.prog 43 [.agg a.cells, .agg b.cells] (.v (.one (.bool x))) true ∧ ACalls Try.prog 55 [.agg b.cells, .agg a.cells] (.v (.one (.bool x))) true :=
      ⟨a.same b, fun h => by rw [Dv.same_eq a b h], same_c a (by omega) b, deriv_c a (by omega) b, by rw [← Dv.same_symm a b]; exact same_c b (by omega) a⟩
    have htw := twin_c a (by omega)
    have htt := same_c a (by omega) a
    rw [Dv.same_refl] at htt
    have hna := nodes_c a (by omega)
    have hnb := nodes_c b (by omega)
    refine awp_skip ?_
    try simp only [thenA, inBlockA]
    apply hK1
    try clear hK1 K1
    refine awp_seq_k fun K4 hK4 => ?_
    cases hz3 : x
    · have hy3 := hx
      rw [hz3] at hy3
      refine awp_region' ([(2, .v (.one (.bool x)), true)]) ?_
      simp [fxs, fxOf, dstOK, guardA, runOp, calleeOf, effOp, effBin, AS.ev, AS.get, AS.obj, AS.app, AS.ups, AS.put, AS.behind, AS.rowsOf, AS.resC, AS.resCs, resCs_map, AS.resIV, AS.resArgs, AS.evParts, fillA, AS.fillRows, effCall, ivAV, ivAVs, avOf, acOf, A1.cells, C.flat, List.lookup, Fx.Holds, AS.behindRegion, AS.apps, thenA, inBlockA, InI64, splice, tab3, tab4, tab9, tab22, tab24, tab25, tab69, hcla, hclb, hz3, hy3]
      repeat (refine ⟨by first | assumption | omega, ?_⟩)
      apply hK4
      try clear hK4 K4
      refine awp_seq_k fun K5 hK5 => ?_
      refine awp_region_draw' mixed ([(3, .v (.one (.bool x)), true), (9, .v (.one (.bool x)), true), (15, .v (.agg a.cells), true), (16, .v (.one (.bool true)), true), (23, .v (.one (.int a.nodes)), true), (25, .v (.one (.int b.nodes)), true), (30, .v (.one (.bool true)), true)]) ?_
      simp [fxs, fxOf, dstOK, guardA, runOp, calleeOf, effOp, effBin, AS.ev, AS.get, AS.obj, AS.app, AS.ups, AS.put, AS.behind, AS.rowsOf, AS.resC, AS.resCs, resCs_map, AS.resIV, AS.resArgs, AS.evParts, fillA, AS.fillRows, effCall, ivAV, ivAVs, avOf, acOf, A1.cells, C.flat, List.lookup, Fx.Holds, AS.behindRegion, AS.apps, thenA, inBlockA, InI64, splice, tab3, tab4, tab9, tab22, tab24, tab25, tab69, hcla, hclb, hz3, hy3, htw, htt, hna, hnb, wakes12, hxn]
      refine ⟨by kernel_rfl, ?_⟩
      repeat (refine ⟨by first | assumption | omega | (rw [← hxn hz3]; exact hna), ?_⟩)
      apply hK5
      try clear hK5 K5
      refine awp_ret ?_
      try simp only [thenA, inBlockA]
      rw [← hQ]
      refine ⟨by first | exact .inl rfl | exact .inr rfl, ?_⟩
      simp [AS.result, AS.resVars, AS.resVar, AS.ivOf, AS.ivsOf, AS.resC, AS.resCs, resCs_map, C.flat, AS.get, AS.obj, AS.ups, AS.put, List.lookup, res6, tab3, tab4, tab9, tab22, tab24, tab25, tab69]
    · have hy3 := hx
      rw [hz3] at hy3
      refine awp_region' ([(2, .v (.one (.bool x)), true)]) ?_
      simp [fxs, fxOf, dstOK, guardA, runOp, calleeOf, effOp, effBin, AS.ev, AS.get, AS.obj, AS.app, AS.ups, AS.put, AS.behind, AS.rowsOf, AS.resC, AS.resCs, resCs_map, AS.resIV, AS.resArgs, AS.evParts, fillA, AS.fillRows, effCall, ivAV, ivAVs, avOf, acOf, A1.cells, C.flat, List.lookup, Fx.Holds, AS.behindRegion, AS.apps, thenA, inBlockA, InI64, splice, tab3, tab4, tab9, tab22, tab24, tab25, tab69, hcla, hclb, hz3, hy3]
      repeat (refine ⟨by first | assumption | omega, ?_⟩)
      apply hK4
      try clear hK4 K4
      refine awp_seq_k fun K6 hK6 => ?_
      refine awp_region_draw' mixed ([(3, .v (.one (.bool x)), true), (9, .v (.one (.bool x)), true), (15, .v (.agg a.cells), true), (16, .v (.one (.bool true)), true), (23, .v (.one (.int a.nodes)), true), (25, .v (.one (.int b.nodes)), true), (30, .v (.one (.bool true)), true)]) ?_
      simp [fxs, fxOf, dstOK, guardA, runOp, calleeOf, effOp, effBin, AS.ev, AS.get, AS.obj, AS.app, AS.ups, AS.put, AS.behind, AS.rowsOf, AS.resC, AS.resCs, resCs_map, AS.resIV, AS.resArgs, AS.evParts, fillA, AS.fillRows, effCall, ivAV, ivAVs, avOf, acOf, A1.cells, C.flat, List.lookup, Fx.Holds, AS.behindRegion, AS.apps, thenA, inBlockA, InI64, splice, tab3, tab4, tab9, tab22, tab24, tab25, tab69, hcla, hclb, hz3, hy3, htw, htt, hna, hnb, wakes12, hxn]
      refine ⟨by kernel_rfl, ?_⟩
      repeat (refine ⟨by first | assumption | omega | (rw [← hxn hz3]; exact hna), ?_⟩)
      apply hK6
      try clear hK6 K6
      refine awp_ret ?_
      try simp only [thenA, inBlockA]
      rw [← hQ]
      refine ⟨by first | exact .inl rfl | exact .inr rfl, ?_⟩
      simp [AS.result, AS.resVars, AS.resVar, AS.ivOf, AS.ivsOf, AS.resC, AS.resCs, resCs_map, C.flat, AS.get, AS.obj, AS.ups, AS.put, List.lookup, res6, tab3, tab4, tab9, tab22, tab24, tab25, tab69]
end Go.Proofs.Yteaglcbnkephgaa
