/-
  What the functions on contexts and judgments compute.
-/
import Derived.Test.YtcaahmielncmpaaGreatGenE
set_option linter.unusedSimpArgs false
set_option linter.unusedVariables false
namespace Go.Proofs.YtcaahmielncmpaaGreat
open Go Go.RowKit
set_option maxRecDepth 100000
-- tranship/transhipkeep.GreatCtx
-- tranship/transhipkeep.GreatJudgs
-- tranship/transhipkeep.TwinCtx
-- tranship/transhipkeep.TwinJudgs
-- tranship/ctx.Right
def o57_0 (n : Nat) (k1 : (List Ent) -> Int -> Int -> Option Bool) (a0 : List Ent) : Option Bool :=
  k1 a0 (a0.length : Int) 0
def o57_1 (n : Nat) (k1 : (List Ent) -> Int -> Int -> Option Bool) (q : List Ent) (r p : Int) : Option Bool :=
  ifB (decide (p < r)) ( atI q p fun x1 => ifB (decide (x1.i < (0 : Int))) ( some false) ( ifB (decide ((1000 : Int) < x1.i)) ( some false) ( (f89 n x1.a).bind fun x2 => ifB (!x2) ( some false) ( (f61 n x1.a).bind fun x3 => ifB (decide (p < x3)) ( some false) ( ckI (p + (1 : Int)) <| k1 q r (p + (1 : Int))))))) ( some true)
def l57_1 (n : Nat) : Nat → (List Ent) -> Int -> Int -> Option Bool
  | 0, _, _, _ => none
  | m + 1, q, r, p => o57_1 n (l57_1 n m) q r p
def f57 (n : Nat) (a0 : List Ent) : Option Bool := o57_0 n (l57_1 n n) a0
def F57 : Fn := ⟨57, (.n none [] 0 .z (.n none [] 0 (.n none [] 0 .z (.n none [] 0 (.n (some 1) [(5, .one (.d .ent false)), (6, .one .c), (7, .one .c)] 0 .z .z) .z)) .z)), [.tmp 2], [.sl .ent], [.sc .bool], false, true, 34, 3, [1]⟩
def C57 (n : Nat) : Cal := ⟨57, F57.ps, F57.rs, F57.fr, fun a => f57 n a.1⟩
def cs57 (n : Nat) : List Cal := [C61 n, C89 n]
def st57_1 (q : List Ent) (r p : Int) : SS := ⟨[(5, .v (.one (.c (.sl .ent q) false))), (6, .v (.one (.c (.int r) true))), (7, .v (.one (.c (.int p) true)))], [], 0⟩
theorem p57_1 (n R q r p) : F57.Wl Tryz.f57 tabR (cs57 n) R 1 (st57_1 q r p) = o57_1 n (fun q r p => R 1 (st57_1 q r p)) q r p := by kernel_rfl
theorem m57_1 (n) : ∀ m : Nat, (∀ q r p, F57.Wm Tryz.f57 tabR (cs57 n) m 1 (st57_1 q r p) = l57_1 n m q r p) := by
  intro m
  induction m with
  | zero => exact (by intros; rfl)
  | succ m ih => intros; rw [Fn.Wm_succ, p57_1]; simp only [ih]; rfl
theorem p57_0 (n R x) : F57.W0 Tryz.f57 tabR (cs57 n) R x = o57_0 n (fun q r p => R 1 (st57_1 q r p)) x.1 := by kernel_rfl
theorem w57 (n x) : F57.W Tryz.f57 tabR (cs57 n) n x = o57_0 n (l57_1 n n) x.1 := by
  rw [Fn.W_eq, p57_0]; simp only [m57_1 n n]; try rfl
theorem ok57 (n : Nat) : (C57 n).Ok Tryz.prog := okOf F57 Tryz.func57 htabR (cs := cs57 n) (by kernel_rfl) (mC (ok61 n) <| mC (ok89 n) <| mN) (fun x => ⟨n, w57 n x⟩)
-- tranship/ctx.At
def o64_0 (n : Nat) (k1 : (List Ent) -> Int -> Int -> Int -> Int -> Int -> Option (Tm × Int × Bool)) (a0 : List Ent) (a1 : Int) : Option (Tm × Int × Bool) :=
  ifB (decide (a1 < (0 : Int))) ( some ((Tm.mk 0 0 0 0 []), (0 : Int), false)) ( ifB (decide ((a0.length : Int) ≤ a1)) ( some ((Tm.mk 0 0 0 0 []), (0 : Int), false)) ( (f57 n a0).bind fun x1 => ifB (!x1) ( some ((Tm.mk 0 0 0 0 []), (0 : Int), false)) ( k1 a0 a1 0 0 0 0)))
def o64_1 (n : Nat) (p : List Ent) (q r s t u : Int) : Option (Tm × Int × Bool) :=
  ckI ((p.length : Int) - (1 : Int)) <| ckI (((p.length : Int) - (1 : Int)) - q) <| atI p (((p.length : Int) - (1 : Int)) - q) fun x2 => ckI (q + (1 : Int)) <| (f93 n x2.a (q + (1 : Int)) 0).bind fun x3 => some (x3, x2.i, true)
def c64_1 (n : Nat) (p : List Ent) (q r s t u : Int) : Option (Tm × Int × Bool) :=
  o64_1 n p q r s t u
def f64 (n : Nat) (a0 : List Ent) (a1 : Int) : Option (Tm × Int × Bool) := o64_0 n (c64_1 n) a0 a1
def F64 : Fn := ⟨64, (.n none [] 0 .z (.n (some 1) [(0, .one (.d .ent false)), (1, .one .c), (4, .p 0 [.c, .c, .c, .c, .k])] 1 .z .z)), [.cell 4 29, .tmp 5, .tmp 6], [.sl .ent, .sc .int], [.st .tm, .sc .int, .sc .bool], false, true, 37, 3, []⟩
def C64 (n : Nat) : Cal := ⟨64, F64.ps, F64.rs, F64.fr, fun a => f64 n a.1 a.2.1⟩
def cs64 (n : Nat) : List Cal := [C57 n, C93 n]
theorem w64 (n x) : F64.W Tryz.f64 tabR (cs64 n) 0 x = o64_0 n (c64_1 n) x.1 x.2.1 := by kernel_rfl
theorem ok64 (n : Nat) : (C64 n).Ok Tryz.prog := okOf F64 Tryz.func64 htabR (cs := cs64 n) (by kernel_rfl) (mC (ok57 n) <| mC (ok93 n) <| mN) (fun x => ⟨0, w64 n x⟩)
-- tranship/transhipref11.level
def o41_0 (a0 : Int) : Option Bool :=
  ifB (decide ((0 : Int) ≤ a0)) ( some (decide (a0 ≤ (1000 : Int)))) ( some false)
def f41 (a0 : Int) : Option Bool := o41_0 a0
def F41 : Fn := ⟨41, .z, [.tmp 2], [.sc .int], [.sc .bool], false, true, 9, 2, []⟩
def C41 : Cal := ⟨41, F41.ps, F41.rs, F41.fr, fun a => f41 a.1⟩
def cs41 : List Cal := []
theorem w41 (x) : F41.W Tryz.f41 tabR cs41 0 x = o41_0 x.1 := by kernel_rfl
theorem ok41 : C41.Ok Tryz.prog := okOf F41 Tryz.func41 htabR (cs := cs41) (by kernel_rfl) (mN) (fun x => ⟨0, w41 x⟩)
-- tranship/transhipref11.RightCtx
def o70_0 (n : Nat) (k1 : (List Ent) -> Int -> Option Bool) (a0 : List Ent) : Option Bool :=
  k1 a0 0
def o70_1 (n : Nat) (k1 : (List Ent) -> Int -> Option Bool) (q : List Ent) (p : Int) : Option Bool :=
  ifB (decide (p < (q.length : Int))) ( atI q p fun x1 => (f41 x1.i).bind fun x2 => ifB (!x2) ( some false) ( atI q p fun x3 => (f106 n x3.a).bind fun x4 => ifB (!x4) ( some false) ( atI q p fun x5 => (f72 n x5.a).bind fun x6 => ifB (decide (p < x6)) ( some false) ( ckI (p + (1 : Int)) <| k1 q (p + (1 : Int)))))) ( some true)
def l70_1 (n : Nat) : Nat → (List Ent) -> Int -> Option Bool
  | 0, _, _ => none
  | m + 1, q, p => o70_1 n (l70_1 n m) q p
def f70 (n : Nat) (a0 : List Ent) : Option Bool := o70_0 n (l70_1 n n) a0
def F70 : Fn := ⟨70, (.n none [] 0 .z (.n none [] 0 (.n none [] 0 .z (.n none [] 0 (.n (some 1) [(0, .one (.d .ent false)), (3, .one .c)] 0 .z .z) .z)) .z)), [.tmp 2], [.sl .ent], [.sc .bool], false, true, 36, 3, [1]⟩
def C70 (n : Nat) : Cal := ⟨70, F70.ps, F70.rs, F70.fr, fun a => f70 n a.1⟩
def cs70 (n : Nat) : List Cal := [C41, C72 n, C106 n]
def st70_1 (q : List Ent) (p : Int) : SS := ⟨[(0, .v (.one (.c (.sl .ent q) false))), (3, .v (.one (.c (.int p) true)))], [], 0⟩
theorem p70_1 (n R q p) : F70.Wl Tryz.f70 tabR (cs70 n) R 1 (st70_1 q p) = o70_1 n (fun q p => R 1 (st70_1 q p)) q p := by kernel_rfl
theorem m70_1 (n) : ∀ m : Nat, (∀ q p, F70.Wm Tryz.f70 tabR (cs70 n) m 1 (st70_1 q p) = l70_1 n m q p) := by
  intro m
  induction m with
  | zero => exact (by intros; rfl)
  | succ m ih => intros; rw [Fn.Wm_succ, p70_1]; simp only [ih]; rfl
theorem p70_0 (n R x) : F70.W0 Tryz.f70 tabR (cs70 n) R x = o70_0 n (fun q p => R 1 (st70_1 q p)) x.1 := by kernel_rfl
theorem w70 (n x) : F70.W Tryz.f70 tabR (cs70 n) n x = o70_0 n (l70_1 n n) x.1 := by
  rw [Fn.W_eq, p70_0]; simp only [m70_1 n n]; try rfl
theorem ok70 (n : Nat) : (C70 n).Ok Tryz.prog := okOf F70 Tryz.func70 htabR (cs := cs70 n) (by kernel_rfl) (mC ok41 <| mC (ok72 n) <| mC (ok106 n) <| mN) (fun x => ⟨n, w70 n x⟩)
-- tranship/transhipref11.PureCtx
def o36_0 (n : Nat) (k1 : (List Ent) -> Int -> Option Bool) (a0 : List Ent) : Option Bool :=
  k1 a0 0
def o36_1 (n : Nat) (k1 : (List Ent) -> Int -> Option Bool) (p : List Ent) (q : Int) : Option Bool :=
  ifB (decide (q < (p.length : Int))) ( atI p q fun x1 => (f69 n x1.a).bind fun x2 => ifB (!x2) ( some false) ( ckI (q + (1 : Int)) <| k1 p (q + (1 : Int)))) ( (f70 n p).bind fun x3 => some x3)
def l36_1 (n : Nat) : Nat → (List Ent) -> Int -> Option Bool
  | 0, _, _ => none
  | m + 1, p, q => o36_1 n (l36_1 n m) p q
def f36 (n : Nat) (a0 : List Ent) : Option Bool := o36_0 n (l36_1 n n) a0
def F36 : Fn := ⟨36, (.n none [] 0 .z (.n none [] 0 (.n none [] 0 .z (.n none [] 0 (.n (some 1) [(0, .one (.d .ent false)), (3, .one .c)] 0 .z .z) .z)) .z)), [.tmp 2], [.sl .ent], [.sc .bool], false, true, 19, 3, [1]⟩
def C36 (n : Nat) : Cal := ⟨36, F36.ps, F36.rs, F36.fr, fun a => f36 n a.1⟩
def cs36 (n : Nat) : List Cal := [C69 n, C70 n]
def st36_1 (p : List Ent) (q : Int) : SS := ⟨[(0, .v (.one (.c (.sl .ent p) false))), (3, .v (.one (.c (.int q) true)))], [], 0⟩
theorem p36_1 (n R p q) : F36.Wl Tryz.f36 tabR (cs36 n) R 1 (st36_1 p q) = o36_1 n (fun p q => R 1 (st36_1 p q)) p q := by kernel_rfl
theorem m36_1 (n) : ∀ m : Nat, (∀ p q, F36.Wm Tryz.f36 tabR (cs36 n) m 1 (st36_1 p q) = l36_1 n m p q) := by
  intro m
  induction m with
  | zero => exact (by intros; rfl)
  | succ m ih => intros; rw [Fn.Wm_succ, p36_1]; simp only [ih]; rfl
theorem p36_0 (n R x) : F36.W0 Tryz.f36 tabR (cs36 n) R x = o36_0 n (fun p q => R 1 (st36_1 p q)) x.1 := by kernel_rfl
theorem w36 (n x) : F36.W Tryz.f36 tabR (cs36 n) n x = o36_0 n (l36_1 n n) x.1 := by
  rw [Fn.W_eq, p36_0]; simp only [m36_1 n n]; try rfl
theorem ok36 (n : Nat) : (C36 n).Ok Tryz.prog := okOf F36 Tryz.func36 htabR (cs := cs36 n) (by kernel_rfl) (mC (ok69 n) <| mC (ok70 n) <| mN) (fun x => ⟨n, w36 n x⟩)
-- tranship/transhipkeep.Zero
def o73_0 (a0 : Tm) : Option Bool :=
  ifB (decide (a0.kind = (0 : Int))) ( ifB (decide (a0.i = (0 : Int))) ( ifB (decide (a0.j = (0 : Int))) ( ifB (decide (a0.n = (0 : Int))) ( some (decide ((a0.kids.length : Int) = (0 : Int)))) ( some false)) ( some false)) ( some false)) ( some false)
def f73 (a0 : Tm) : Option Bool := o73_0 a0
def F73 : Fn := ⟨73, .z, [.tmp 2], [.st .tm], [.sc .bool], false, true, 27, 2, []⟩
def C73 : Cal := ⟨73, F73.ps, F73.rs, F73.fr, fun a => f73 a.1⟩
def cs73 : List Cal := []
theorem w73 (x) : F73.W Tryz.f73 tabR cs73 0 x = o73_0 x.1 := by kernel_rfl
theorem ok73 : C73.Ok Tryz.prog := okOf F73 Tryz.func73 htabR (cs := cs73) (by kernel_rfl) (mN) (fun x => ⟨0, w73 x⟩)
-- tranship/transhipref11.Add
def o54_0 (n : Nat) (k1 : (List Ent) -> Int -> Tm -> (List Ent) -> Int -> Option ((List Ent))) (a0 : List Ent) (a1 : Tm) (a2 : Int) : Option ((List Ent)) :=
  k1 a0 a2 a1 ([] : List Ent) 0
def o54_1 (n : Nat) (k1 : (List Ent) -> Int -> Tm -> (List Ent) -> Int -> Option ((List Ent))) (t : List Ent) (r : Int) (p : Tm) (q : List Ent) (s : Int) : Option ((List Ent)) :=
  ifB (decide (s < (t.length : Int))) ( atI t s fun x1 => ckB (decide ((q.length + [(Ent.mk (Tm.mk x1.a.kind x1.a.i x1.a.j x1.a.n x1.a.kids) x1.i)].length) * 64 ≤ 140737488355328) && decide (q.length + [(Ent.mk (Tm.mk x1.a.kind x1.a.i x1.a.j x1.a.n x1.a.kids) x1.i)].length ≤ 9223372036854775807)) <| ckI (s + (1 : Int)) <| k1 t r p (q ++ [(Ent.mk (Tm.mk x1.a.kind x1.a.i x1.a.j x1.a.n x1.a.kids) x1.i)]) (s + (1 : Int))) ( ckB (decide ((q.length + [(Ent.mk (Tm.mk p.kind p.i p.j p.n p.kids) r)].length) * 64 ≤ 140737488355328) && decide (q.length + [(Ent.mk (Tm.mk p.kind p.i p.j p.n p.kids) r)].length ≤ 9223372036854775807)) <| some (q ++ [(Ent.mk (Tm.mk p.kind p.i p.j p.n p.kids) r)]))
def l54_1 (n : Nat) : Nat → (List Ent) -> Int -> Tm -> (List Ent) -> Int -> Option ((List Ent))
  | 0, _, _, _, _, _ => none
  | m + 1, t, r, p, q, s => o54_1 n (l54_1 n m) t r p q s
def f54 (n : Nat) (a0 : List Ent) (a1 : Tm) (a2 : Int) : Option ((List Ent)) := o54_0 n (l54_1 n n) a0 a1 a2
def F54 : Fn := ⟨54, (.n none [] 0 .z (.n none [] 0 .z (.n none [] 0 (.n none [] 0 .z (.n none [] 0 (.n (some 1) [(0, .one (.d .ent false)), (2, .one .c), (4, .ps 0 .tm false), (7, .one (.r 1 63 .ent false)), (8, .one .c)] 2 .z .z) .z)) .z))), [.tmp 6], [.sl .ent, .st .tm, .sc .int], [.sl .ent], false, false, 28, 3, [1]⟩
def C54 (n : Nat) : Cal := ⟨54, F54.ps, F54.rs, F54.fr, fun a => f54 n a.1 a.2.1 a.2.2.1⟩
def cs54 (n : Nat) : List Cal := []
def st54_1 (t : List Ent) (r : Int) (p : Tm) (q : List Ent) (s : Int) : SS := ⟨[(0, .v (.one (.c (.sl .ent t) false))), (2, .v (.one (.c (.int r) true))), (4, .v (.one (.ptr 0 0))), (7, .v (.one (.arr 1))), (8, .v (.one (.c (.int s) true)))], [(0, some (.bst .tm p false)), (1, some (.row 63 .ent q false))], 2⟩
theorem p54_1 (n R t r p q s) : F54.Wl Tryz.f54 tabR (cs54 n) R 1 (st54_1 t r p q s) = o54_1 n (fun t r p q s => R 1 (st54_1 t r p q s)) t r p q s := by kernel_rfl
theorem m54_1 (n) : ∀ m : Nat, (∀ t r p q s, F54.Wm Tryz.f54 tabR (cs54 n) m 1 (st54_1 t r p q s) = l54_1 n m t r p q s) := by
  intro m
  induction m with
  | zero => exact (by intros; rfl)
  | succ m ih => intros; rw [Fn.Wm_succ, p54_1]; simp only [ih]; rfl
theorem p54_0 (n R x) : F54.W0 Tryz.f54 tabR (cs54 n) R x = o54_0 n (fun t r p q s => R 1 (st54_1 t r p q s)) x.1 x.2.1 x.2.2.1 := by kernel_rfl
theorem w54 (n x) : F54.W Tryz.f54 tabR (cs54 n) n x = o54_0 n (l54_1 n n) x.1 x.2.1 x.2.2.1 := by
  rw [Fn.W_eq, p54_0]; simp only [m54_1 n n]; try rfl
theorem ok54 (n : Nat) : (C54 n).Ok Tryz.prog := okOf F54 Tryz.func54 htabR (cs := cs54 n) (by kernel_rfl) (mN) (fun x => ⟨n, w54 n x⟩)
-- tranship/transhipref11.At
def o76_0 (n : Nat) (k1 : (List Ent) -> Int -> Int -> Int -> Int -> Int -> Option (Tm × Int × Bool)) (a0 : List Ent) (a1 : Int) : Option (Tm × Int × Bool) :=
  ifB (decide (a1 < (0 : Int))) ( some ((Tm.mk 0 0 0 0 []), (0 : Int), false)) ( ifB (decide ((a0.length : Int) ≤ a1)) ( some ((Tm.mk 0 0 0 0 []), (0 : Int), false)) ( (f70 n a0).bind fun x1 => ifB (!x1) ( some ((Tm.mk 0 0 0 0 []), (0 : Int), false)) ( k1 a0 a1 0 0 0 0)))
def o76_1 (n : Nat) (p : List Ent) (q r s t u : Int) : Option (Tm × Int × Bool) :=
  ckI ((p.length : Int) - (1 : Int)) <| ckI (((p.length : Int) - (1 : Int)) - q) <| atI p (((p.length : Int) - (1 : Int)) - q) fun x2 => ckI (q + (1 : Int)) <| (f110 n x2.a (q + (1 : Int)) 0).bind fun x3 => some (x3, x2.i, true)
def c76_1 (n : Nat) (p : List Ent) (q r s t u : Int) : Option (Tm × Int × Bool) :=
  o76_1 n p q r s t u
def f76 (n : Nat) (a0 : List Ent) (a1 : Int) : Option (Tm × Int × Bool) := o76_0 n (c76_1 n) a0 a1
def F76 : Fn := ⟨76, (.n none [] 0 .z (.n (some 1) [(0, .one (.d .ent false)), (1, .one .c), (4, .p 0 [.c, .c, .c, .c, .k])] 1 .z .z)), [.cell 4 29, .tmp 5, .tmp 6], [.sl .ent, .sc .int], [.st .tm, .sc .int, .sc .bool], false, true, 37, 3, []⟩
def C76 (n : Nat) : Cal := ⟨76, F76.ps, F76.rs, F76.fr, fun a => f76 n a.1 a.2.1⟩
def cs76 (n : Nat) : List Cal := [C70 n, C110 n]
theorem w76 (n x) : F76.W Tryz.f76 tabR (cs76 n) 0 x = o76_0 n (c76_1 n) x.1 x.2.1 := by kernel_rfl
theorem ok76 (n : Nat) : (C76 n).Ok Tryz.prog := okOf F76 Tryz.func76 htabR (cs := cs76 n) (by kernel_rfl) (mC (ok70 n) <| mC (ok110 n) <| mN) (fun x => ⟨0, w76 n x⟩)
-- tranship/transhipkeep.Judg
def o11_0 (n : Nat) (a0 a1 : Jd) : Option Bool :=
  ifB (a0.eq == a1.eq) ( ifB (decide (a0.i = a1.i)) ( (f43 n a0.u a1.u).bind fun x1 => ifB x1 ( (f43 n a0.v a1.v).bind fun x2 => ifB x2 ( (f43 n a0.a a1.a).bind fun x3 => some x3) ( some false)) ( some false)) ( some false)) ( some false)
def f11 (n : Nat) (a0 a1 : Jd) : Option Bool := o11_0 n a0 a1
def F11 : Fn := ⟨11, .z, [.tmp 4], [.st .jd, .st .jd], [.sc .bool], false, true, 38, 2, []⟩
def C11 (n : Nat) : Cal := ⟨11, F11.ps, F11.rs, F11.fr, fun a => f11 n a.1 a.2.1⟩
def cs11 (n : Nat) : List Cal := [C43 n]
theorem w11 (n x) : F11.W Tryz.f11 tabR (cs11 n) 0 x = o11_0 n x.1 x.2.1 := by kernel_rfl
theorem ok11 (n : Nat) : (C11 n).Ok Tryz.prog := okOf F11 Tryz.func11 htabR (cs := cs11 n) (by kernel_rfl) (mC (ok43 n) <| mN) (fun x => ⟨0, w11 n x⟩)
-- tranship/transhipkeep.Ctx
def o12_0 (n : Nat) (k1 : (List Ent) -> (List Ent) -> Int -> Option Bool) (a0 a1 : List Ent) : Option Bool :=
  ifB (!decide ((a0.length : Int) = (a1.length : Int))) ( some false) ( k1 a0 a1 0)
def o12_1 (n : Nat) (k1 : (List Ent) -> (List Ent) -> Int -> Option Bool) (q r : List Ent) (p : Int) : Option Bool :=
  ifB (decide (p < (q.length : Int))) ( atI q p fun x1 => atI r p fun x2 => ifB (!decide (x1.i = x2.i)) ( some false) ( atI q p fun x3 => atI r p fun x4 => (f43 n x3.a x4.a).bind fun x5 => ifB (!x5) ( some false) ( ckI (p + (1 : Int)) <| k1 q r (p + (1 : Int))))) ( some true)
def l12_1 (n : Nat) : Nat → (List Ent) -> (List Ent) -> Int -> Option Bool
  | 0, _, _, _ => none
  | m + 1, q, r, p => o12_1 n (l12_1 n m) q r p
def f12 (n : Nat) (a0 a1 : List Ent) : Option Bool := o12_0 n (l12_1 n n) a0 a1
def F12 : Fn := ⟨12, (.n none [] 0 .z (.n none [] 0 .z (.n none [] 0 (.n none [] 0 .z (.n none [] 0 (.n (some 1) [(0, .one (.d .ent false)), (1, .one (.d .ent false)), (5, .one .c)] 0 .z .z) .z)) .z))), [.tmp 4], [.sl .ent, .sl .ent], [.sc .bool], false, true, 42, 3, [1]⟩
def C12 (n : Nat) : Cal := ⟨12, F12.ps, F12.rs, F12.fr, fun a => f12 n a.1 a.2.1⟩
def cs12 (n : Nat) : List Cal := [C43 n]
def st12_1 (q r : List Ent) (p : Int) : SS := ⟨[(0, .v (.one (.c (.sl .ent q) false))), (1, .v (.one (.c (.sl .ent r) false))), (5, .v (.one (.c (.int p) true)))], [], 0⟩
theorem p12_1 (n R q r p) : F12.Wl Tryz.f12 tabR (cs12 n) R 1 (st12_1 q r p) = o12_1 n (fun q r p => R 1 (st12_1 q r p)) q r p := by kernel_rfl
theorem m12_1 (n) : ∀ m : Nat, (∀ q r p, F12.Wm Tryz.f12 tabR (cs12 n) m 1 (st12_1 q r p) = l12_1 n m q r p) := by
  intro m
  induction m with
  | zero => exact (by intros; rfl)
  | succ m ih => intros; rw [Fn.Wm_succ, p12_1]; simp only [ih]; rfl
theorem p12_0 (n R x) : F12.W0 Tryz.f12 tabR (cs12 n) R x = o12_0 n (fun q r p => R 1 (st12_1 q r p)) x.1 x.2.1 := by kernel_rfl
theorem w12 (n x) : F12.W Tryz.f12 tabR (cs12 n) n x = o12_0 n (l12_1 n n) x.1 x.2.1 := by
  rw [Fn.W_eq, p12_0]; simp only [m12_1 n n]; try rfl
theorem ok12 (n : Nat) : (C12 n).Ok Tryz.prog := okOf F12 Tryz.func12 htabR (cs := cs12 n) (by kernel_rfl) (mC (ok43 n) <| mN) (fun x => ⟨n, w12 n x⟩)
-- tranship/ctx.copied
def o116_0 (n : Nat) (k1 : (List Ent) -> (List Ent) -> Int -> Int -> Option ((List Ent))) (a0 : List Ent) (a1 : Int) : Option ((List Ent)) :=
  ckI ((a0.length : Int) + a1) <| ckB (decide (0 ≤ (0 : Int)) && (decide ((0 : Int) ≤ ((a0.length : Int) + a1)) && decide ((64 : Nat) * ((a0.length : Int) + a1) ≤ 281474976710656))) <| k1 (List.replicate (0 : Int).toNat (Ent.mk (Tm.mk 0 0 0 0 []) 0)) a0 (a0.length : Int) 0
def o116_1 (n : Nat) (k1 : (List Ent) -> (List Ent) -> Int -> Int -> Option ((List Ent))) (p r : List Ent) (s q : Int) : Option ((List Ent)) :=
  ifB (decide (q < s)) ( atI r q fun x1 => (f35 n x1.a).bind fun x2 => ckB (decide ((p.length + [(Ent.mk (Tm.mk x2.kind x2.i x2.j x2.n x2.kids) x1.i)].length) * 64 ≤ 140737488355328) && decide (p.length + [(Ent.mk (Tm.mk x2.kind x2.i x2.j x2.n x2.kids) x1.i)].length ≤ 9223372036854775807)) <| ckI (q + (1 : Int)) <| k1 (p ++ [(Ent.mk (Tm.mk x2.kind x2.i x2.j x2.n x2.kids) x1.i)]) r s (q + (1 : Int))) ( some p)
def l116_1 (n : Nat) : Nat → (List Ent) -> (List Ent) -> Int -> Int -> Option ((List Ent))
  | 0, _, _, _, _ => none
  | m + 1, p, r, s, q => o116_1 n (l116_1 n m) p r s q
def f116 (n : Nat) (a0 : List Ent) (a1 : Int) : Option ((List Ent)) := o116_0 n (l116_1 n n) a0 a1
def F116 : Fn := ⟨116, (.n none [] 0 .z (.n none [] 0 .z (.n none [] 0 (.n none [] 0 .z (.n none [] 0 (.n (some 1) [(5, .one (.r 0 63 .ent true)), (13, .one (.d .ent false)), (14, .one .c), (15, .one .c)] 1 .z .z) .z)) .z))), [.tmp 4], [.sl .ent, .sc .int], [.own 63 .ent], true, true, 30, 3, [1]⟩
def C116 (n : Nat) : Cal := ⟨116, F116.ps, F116.rs, F116.fr, fun a => f116 n a.1 a.2.1⟩
def cs116 (n : Nat) : List Cal := [C35 n]
def st116_1 (p r : List Ent) (s q : Int) : SS := ⟨[(5, .v (.one (.arr 0))), (13, .v (.one (.c (.sl .ent r) false))), (14, .v (.one (.c (.int s) true))), (15, .v (.one (.c (.int q) true)))], [(0, some (.row 63 .ent p true))], 1⟩
theorem p116_1 (n R p r s q) : F116.Wl Tryz.f116 tabR (cs116 n) R 1 (st116_1 p r s q) = o116_1 n (fun p r s q => R 1 (st116_1 p r s q)) p r s q := by kernel_rfl
theorem m116_1 (n) : ∀ m : Nat, (∀ p r s q, F116.Wm Tryz.f116 tabR (cs116 n) m 1 (st116_1 p r s q) = l116_1 n m p r s q) := by
  intro m
  induction m with
  | zero => exact (by intros; rfl)
  | succ m ih => intros; rw [Fn.Wm_succ, p116_1]; simp only [ih]; rfl
theorem p116_0 (n R x) : F116.W0 Tryz.f116 tabR (cs116 n) R x = o116_0 n (fun p r s q => R 1 (st116_1 p r s q)) x.1 x.2.1 := by kernel_rfl
theorem w116 (n x) : F116.W Tryz.f116 tabR (cs116 n) n x = o116_0 n (l116_1 n n) x.1 x.2.1 := by
  rw [Fn.W_eq, p116_0]; simp only [m116_1 n n]; try rfl
theorem ok116 (n : Nat) : (C116 n).Ok Tryz.prog := okOf F116 Tryz.func116 htabR (cs := cs116 n) (by kernel_rfl) (mC (ok35 n) <| mN) (fun x => ⟨n, w116 n x⟩)
-- tranship/ctx.Add
def o82_0 (n : Nat) (a0 : List Ent) (a1 : Tm) (a2 : Int) : Option ((List Ent)) :=
  (f116 n a0 1).bind fun x1 => (f35 n a1).bind fun x2 => ckB (decide ((x1.length + [(Ent.mk (Tm.mk x2.kind x2.i x2.j x2.n x2.kids) a2)].length) * 64 ≤ 140737488355328) && decide (x1.length + [(Ent.mk (Tm.mk x2.kind x2.i x2.j x2.n x2.kids) a2)].length ≤ 9223372036854775807)) <| some (x1 ++ [(Ent.mk (Tm.mk x2.kind x2.i x2.j x2.n x2.kids) a2)])
def f82 (n : Nat) (a0 : List Ent) (a1 : Tm) (a2 : Int) : Option ((List Ent)) := o82_0 n a0 a1 a2
def F82 : Fn := ⟨82, .z, [.tmp 6], [.sl .ent, .st .tm, .sc .int], [.sl .ent], false, true, 15, 2, []⟩
def C82 (n : Nat) : Cal := ⟨82, F82.ps, F82.rs, F82.fr, fun a => f82 n a.1 a.2.1 a.2.2.1⟩
def cs82 (n : Nat) : List Cal := [C35 n, C116 n]
theorem w82 (n x) : F82.W Tryz.f82 tabR (cs82 n) 0 x = o82_0 n x.1 x.2.1 x.2.2.1 := by kernel_rfl
theorem ok82 (n : Nat) : (C82 n).Ok Tryz.prog := okOf F82 Tryz.func82 htabR (cs := cs82 n) (by kernel_rfl) (mC (ok35 n) <| mC (ok116 n) <| mN) (fun x => ⟨0, w82 n x⟩)
end Go.Proofs.YtcaahmielncmpaaGreat
