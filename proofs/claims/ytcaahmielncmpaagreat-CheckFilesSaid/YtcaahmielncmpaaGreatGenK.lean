/-
  What the functions on terms and their copies compute, as plain functions.
-/
import Derived.Test.YtcaahmielncmpaaGreatTypedB
set_option linter.unusedSimpArgs false
set_option linter.unusedVariables false
namespace Go.Proofs.YtcaahmielncmpaaGreat
open Go Go.RowKit
set_option maxRecDepth 100000
-- tranship/transhipkeep.weigh
-- tranship/transhipkeep.Twin, tranship/transhipkeep.Twins
-- tranship/term.sort
def o131_0 (k1 : Int -> Bool -> Option Int) (a0 : Int) : Option Int :=
  ifB (decide (a0 = (1 : Int))) ( k1 a0 true) ( k1 a0 (decide (a0 = (2 : Int))))
def o131_1 (p : Int) (q : Bool) : Option Int :=
  ifB q ( some 0) ( ifB (decide (p ≤ (12 : Int))) ( some 1) ( some 2))
def c131_1 (p : Int) (q : Bool) : Option Int :=
  o131_1 p q
def f131 (a0 : Int) : Option Int := o131_0 (c131_1) a0
def F131 : Fn := ⟨131, (.n none [] 0 .z (.n none [] 0 (.n none [] 0 (.n (some 1) [(0, .one .c), (3, .one .c)] 0 .z .z) .z) .z)), [.tmp 2], [.sc .int], [.sc .int], false, true, 13, 3, []⟩
def C131 : Cal := ⟨131, F131.ps, F131.rs, F131.fr, fun a => f131 a.1⟩
def cs131 : List Cal := []
theorem w131 (x) : F131.W Tryz.f131 tabR cs131 0 x = o131_0 (c131_1) x.1 := by kernel_rfl
theorem ok131 : C131.Ok Tryz.prog := okOf F131 Tryz.func131 htabR (cs := cs131) (by kernel_rfl) (mN) (fun x => ⟨0, w131 x⟩)
-- tranship/term.takes
def o141_0 (k1 : Int -> Bool -> Option Int) (a0 : Int) : Option Int :=
  ifB (decide (a0 = (3 : Int))) ( k1 a0 (decide (a0 = (3 : Int)))) ( ifB (decide (a0 = (5 : Int))) ( k1 a0 (decide (a0 = (5 : Int)))) ( ifB (decide (a0 = (6 : Int))) ( k1 a0 (decide (a0 = (6 : Int)))) ( ifB (decide (a0 = (8 : Int))) ( k1 a0 (decide (a0 = (8 : Int)))) ( ifB (decide (a0 = (10 : Int))) ( k1 a0 (decide (a0 = (10 : Int)))) ( k1 a0 (decide (a0 = (11 : Int))))))))
def o141_1 (k2 : Int -> Bool -> Option Int) (p : Int) (q : Bool) : Option Int :=
  ifB q ( some 4) ( ifB (decide (p = (1 : Int))) ( k2 p (decide (p = (1 : Int)))) ( ifB (decide (p = (2 : Int))) ( k2 p (decide (p = (2 : Int)))) ( ifB (decide (p = (7 : Int))) ( k2 p (decide (p = (7 : Int)))) ( k2 p (decide (p = (9 : Int)))))))
def o141_2 (k3 : Int -> Bool -> Option Int) (p : Int) (r : Bool) : Option Int :=
  ifB r ( some 5) ( ifB (decide (p = (4 : Int))) ( k3 p (decide (p = (4 : Int)))) ( ifB (decide (p = (12 : Int))) ( k3 p (decide (p = (12 : Int)))) ( ifB (decide (p = (13 : Int))) ( k3 p (decide (p = (13 : Int)))) ( ifB (decide (p = (14 : Int))) ( k3 p (decide (p = (14 : Int)))) ( k3 p (decide (p = (21 : Int))))))))
def o141_3 (k4 : Int -> Bool -> Option Int) (p : Int) (s : Bool) : Option Int :=
  ifB s ( some 6) ( ifB (decide (p = (15 : Int))) ( k4 p (decide (p = (15 : Int)))) ( ifB (decide (p = (18 : Int))) ( k4 p (decide (p = (18 : Int)))) ( ifB (decide (p = (19 : Int))) ( k4 p (decide (p = (19 : Int)))) ( k4 p (decide (p = (20 : Int)))))))
def o141_4 (p : Int) (t : Bool) : Option Int :=
  ifB t ( some 9) ( ifB (decide (p = (16 : Int))) ( ifB (decide (p = (16 : Int))) ( some 12) ( some (-1 : Int))) ( ifB (decide (p = (17 : Int))) ( some 12) ( some (-1 : Int))))
def c141_4 (p : Int) (t : Bool) : Option Int :=
  o141_4 p t
def c141_3 (p : Int) (s : Bool) : Option Int :=
  o141_3 (c141_4) p s
def c141_2 (p : Int) (r : Bool) : Option Int :=
  o141_2 (c141_3) p r
def c141_1 (p : Int) (q : Bool) : Option Int :=
  o141_1 (c141_2) p q
def f141 (a0 : Int) : Option Int := o141_0 (c141_1) a0
def F141 : Fn := ⟨141, (.n none [] 0 .z (.n none [] 0 (.n none [] 0 .z (.n none [] 0 (.n (some 1) [(3, .one .c), (4, .one .c)] 0 .z (.n none [] 0 .z (.n (some 2) [(3, .one .c), (11, .one .c)] 0 .z (.n none [] 0 .z (.n (some 3) [(3, .one .c), (16, .one .c)] 0 .z (.n none [] 0 .z (.n (some 4) [(3, .one .c), (22, .one .c)] 0 .z .z))))))) .z)) .z)), [.tmp 2], [.sc .int], [.sc .int], false, true, 30, 6, []⟩
def C141 : Cal := ⟨141, F141.ps, F141.rs, F141.fr, fun a => f141 a.1⟩
def cs141 : List Cal := []
theorem w141 (x) : F141.W Tryz.f141 tabR cs141 0 x = o141_0 (c141_1) x.1 := by kernel_rfl
theorem ok141 : C141.Ok Tryz.prog := okOf F141 Tryz.func141 htabR (cs := cs141) (by kernel_rfl) (mN) (fun x => ⟨0, w141 x⟩)
-- tranship/term.Kids
def o132_0 (k1 : Int -> Int -> Bool -> Option Int) (a0 a1 : Int) : Option Int :=
  ifB (decide (a0 = (1 : Int))) ( k1 a1 a0 (decide (a0 = (1 : Int)))) ( k1 a1 a0 (decide (a0 = (2 : Int))))
def o132_1 (k2 : Int -> Int -> Bool -> Option Int) (q p : Int) (r : Bool) : Option Int :=
  ifB r ( some 0) ( ifB (decide (p = (18 : Int))) ( k2 q p (decide (p = (18 : Int)))) ( k2 q p (decide (p = (19 : Int)))))
def o132_2 (k3 : Int -> Int -> Bool -> Option Int) (q p : Int) (s : Bool) : Option Int :=
  ifB s ( some 1) ( ifB (decide (p = (3 : Int))) ( k3 q p (decide (p = (3 : Int)))) ( ifB (decide (p = (6 : Int))) ( k3 q p (decide (p = (6 : Int)))) ( ifB (decide (p = (13 : Int))) ( k3 q p (decide (p = (13 : Int)))) ( ifB (decide (p = (14 : Int))) ( k3 q p (decide (p = (14 : Int)))) ( ifB (decide (p = (15 : Int))) ( k3 q p (decide (p = (15 : Int)))) ( ifB (decide (p = (16 : Int))) ( k3 q p (decide (p = (16 : Int)))) ( ifB (decide (p = (21 : Int))) ( k3 q p (decide (p = (21 : Int)))) ( k3 q p (decide (p = (11 : Int)))))))))))
def o132_3 (k4 : Int -> Int -> Bool -> Option Int) (q p : Int) (t : Bool) : Option Int :=
  ifB t ( some 2) ( ifB (decide (p = (4 : Int))) ( k4 q p (decide (p = (4 : Int)))) ( ifB (decide (p = (8 : Int))) ( k4 q p (decide (p = (8 : Int)))) ( ifB (decide (p = (9 : Int))) ( k4 q p (decide (p = (9 : Int)))) ( ifB (decide (p = (10 : Int))) ( k4 q p (decide (p = (10 : Int)))) ( k4 q p (decide (p = (20 : Int))))))))
def o132_4 (k5 : Int -> Int -> Bool -> Option Int) (q p : Int) (u : Bool) : Option Int :=
  ifB u ( some 3) ( ifB (decide (p = (5 : Int))) ( k5 q p (decide (p = (5 : Int)))) ( ifB (decide (p = (7 : Int))) ( k5 q p (decide (p = (7 : Int)))) ( ifB (decide (p = (12 : Int))) ( k5 q p (decide (p = (12 : Int)))) ( k5 q p (decide (p = (17 : Int)))))))
def o132_5 (q p : Int) (v : Bool) : Option Int :=
  ifB v ( some 4) ( ifB (decide (p = (22 : Int))) ( some 6) ( ifB (decide (p = (23 : Int))) ( (f141 q).bind fun x1 => some x1) ( some (-1 : Int))))
def c132_5 (q p : Int) (v : Bool) : Option Int :=
  o132_5 q p v
def c132_4 (q p : Int) (u : Bool) : Option Int :=
  o132_4 (c132_5) q p u
def c132_3 (q p : Int) (t : Bool) : Option Int :=
  o132_3 (c132_4) q p t
def c132_2 (q p : Int) (s : Bool) : Option Int :=
  o132_2 (c132_3) q p s
def c132_1 (q p : Int) (r : Bool) : Option Int :=
  o132_1 (c132_2) q p r
def f132 (a0 a1 : Int) : Option Int := o132_0 (c132_1) a0 a1
def F132 : Fn := ⟨132, (.n none [] 0 .z (.n none [] 0 (.n none [] 0 .z (.n none [] 0 (.n (some 1) [(1, .one .c), (5, .one .c), (6, .one .c)] 0 .z (.n none [] 0 .z (.n (some 2) [(1, .one .c), (5, .one .c), (9, .one .c)] 0 .z (.n none [] 0 .z (.n (some 3) [(1, .one .c), (5, .one .c), (12, .one .c)] 0 .z (.n none [] 0 .z (.n (some 4) [(1, .one .c), (5, .one .c), (21, .one .c)] 0 .z (.n none [] 0 .z (.n (some 5) [(1, .one .c), (5, .one .c), (27, .one .c)] 0 .z .z))))))))) .z)) .z)), [.tmp 4], [.sc .int, .sc .int], [.sc .int], false, true, 38, 7, []⟩
def C132 : Cal := ⟨132, F132.ps, F132.rs, F132.fr, fun a => f132 a.1 a.2.1⟩
def cs132 : List Cal := [C141]
theorem w132 (x) : F132.W Tryz.f132 tabR cs132 0 x = o132_0 (c132_1) x.1 x.2.1 := by kernel_rfl
theorem ok132 : C132.Ok Tryz.prog := okOf F132 Tryz.func132 htabR (cs := cs132) (by kernel_rfl) (mC ok141 <| mN) (fun x => ⟨0, w132 x⟩)
-- tranship/term.level
def o142_0 (a0 : Int) : Option Bool :=
  ifB (decide ((0 : Int) ≤ a0)) ( some (decide (a0 ≤ (1000 : Int)))) ( some false)
def f142 (a0 : Int) : Option Bool := o142_0 a0
def F142 : Fn := ⟨142, .z, [.tmp 2], [.sc .int], [.sc .bool], false, true, 9, 2, []⟩
def C142 : Cal := ⟨142, F142.ps, F142.rs, F142.fr, fun a => f142 a.1⟩
def cs142 : List Cal := []
theorem w142 (x) : F142.W Tryz.f142 tabR cs142 0 x = o142_0 x.1 := by kernel_rfl
theorem ok142 : C142.Ok Tryz.prog := okOf F142 Tryz.func142 htabR (cs := cs142) (by kernel_rfl) (mN) (fun x => ⟨0, w142 x⟩)
-- tranship/term.numbers
def o133_0 (k1 : Tm -> Int -> Bool -> Option Bool) (a0 : Tm) : Option Bool :=
  ifB (decide (a0.kind = (1 : Int))) ( k1 a0 a0.kind (decide (a0.kind = (1 : Int)))) ( ifB (decide (a0.kind = (10 : Int))) ( k1 a0 a0.kind (decide (a0.kind = (10 : Int)))) ( ifB (decide (a0.kind = (11 : Int))) ( k1 a0 a0.kind (decide (a0.kind = (11 : Int)))) ( k1 a0 a0.kind (decide (a0.kind = (12 : Int))))))
def o133_1 (k2 : Tm -> Int -> Bool -> Option Bool) (p : Tm) (q : Int) (r : Bool) : Option Bool :=
  ifB r ( (f142 p.i).bind fun x1 => ifB x1 ( ifB (decide (p.j = (0 : Int))) ( some (decide (p.n = (0 : Int)))) ( some false)) ( some false)) ( ifB (decide (q = (2 : Int))) ( ifB (decide ((0 : Int) ≤ p.i)) ( ifB (decide (p.i ≤ (2147483647 : Int))) ( ifB (decide (p.j = (0 : Int))) ( some (decide (p.n = (0 : Int)))) ( some false)) ( some false)) ( some false)) ( ifB (decide (q = (3 : Int))) ( k2 p q (decide (q = (3 : Int)))) ( ifB (decide (q = (4 : Int))) ( k2 p q (decide (q = (4 : Int)))) ( ifB (decide (q = (5 : Int))) ( k2 p q (decide (q = (5 : Int)))) ( ifB (decide (q = (6 : Int))) ( k2 p q (decide (q = (6 : Int)))) ( ifB (decide (q = (7 : Int))) ( k2 p q (decide (q = (7 : Int)))) ( ifB (decide (q = (8 : Int))) ( k2 p q (decide (q = (8 : Int)))) ( k2 p q (decide (q = (9 : Int)))))))))))
def o133_2 (p : Tm) (q : Int) (s : Bool) : Option Bool :=
  ifB s ( (f142 p.i).bind fun x2 => ifB x2 ( (f142 p.j).bind fun x3 => ifB x3 ( some (decide (p.n = (0 : Int)))) ( some false)) ( some false)) ( ifB (decide (q = (23 : Int))) ( (f142 p.i).bind fun x4 => ifB x4 ( (f142 p.j).bind fun x5 => some x5) ( some false)) ( ifB (decide (p.i = (0 : Int))) ( ifB (decide (p.j = (0 : Int))) ( some (decide (p.n = (0 : Int)))) ( some false)) ( some false)))
def c133_2 (p : Tm) (q : Int) (s : Bool) : Option Bool :=
  o133_2 p q s
def c133_1 (p : Tm) (q : Int) (r : Bool) : Option Bool :=
  o133_1 (c133_2) p q r
def f133 (a0 : Tm) : Option Bool := o133_0 (c133_1) a0
def F133 : Fn := ⟨133, (.n none [] 0 .z (.n none [] 0 (.n none [] 0 .z (.n none [] 0 (.n (some 1) [(1, .ps 0 .tm false), (4, .one .c), (5, .one .c)] 1 .z (.n none [] 0 .z (.n none [] 0 .z (.n none [] 0 .z (.n (some 2) [(1, .ps 0 .tm false), (4, .one .c), (43, .one .c)] 1 .z .z))))) .z)) .z)), [.tmp 2], [.st .tm], [.sc .bool], false, true, 87, 4, []⟩
def C133 : Cal := ⟨133, F133.ps, F133.rs, F133.fr, fun a => f133 a.1⟩
def cs133 : List Cal := [C142]
theorem w133 (x) : F133.W Tryz.f133 tabR cs133 0 x = o133_0 (c133_1) x.1 := by kernel_rfl
theorem ok133 : C133.Ok Tryz.prog := okOf F133 Tryz.func133 htabR (cs := cs133) (by kernel_rfl) (mC ok142 <| mN) (fun x => ⟨0, w133 x⟩)
-- tranship/term.right
def o119_0 (s119 : Tm → Int → Option Bool) (n : Nat) (k1 : Tm -> Int -> Option Bool) (a0 : Tm) (a1 : Int) : Option Bool :=
  (f131 a0.kind).bind fun x1 => ifB (!decide (a1 = (0 : Int))) ( ifB (!decide (x1 = (0 : Int))) ( ifB (!decide (x1 = a1)) ( some false) ( k1 a0 x1)) ( k1 a0 x1)) ( k1 a0 x1)
def o119_1 (s119 : Tm → Int → Option Bool) (n : Nat) (k2 : Tm -> Int -> Option Bool) (p : Tm) (q : Int) : Option Bool :=
  (f132 p.kind p.n).bind fun x2 => ifB (!decide ((p.kids.length : Int) = x2)) ( some false) ( (f133 p).bind fun x3 => ifB (!x3) ( some false) ( k2 p q))
def o119_2 (s119 : Tm → Int → Option Bool) (n : Nat) (k3 : Tm -> Int -> (List Tm) -> Int -> Int -> Option Bool) (p : Tm) (q : Int) : Option Bool :=
  k3 p q p.kids (p.kids.length : Int) 0
def o119_3 (s119 : Tm → Int → Option Bool) (n : Nat) (k3 : Tm -> Int -> (List Tm) -> Int -> Int -> Option Bool) (p : Tm) (q : Int) (s : List Tm) (t r : Int) : Option Bool :=
  ifB (decide (r < t)) ( atI s r fun x4 => ifB (decide (p.kind = (12 : Int))) ( ifB (decide (r = (2 : Int))) ( (s119 x4 2).bind fun x5 => ifB (!x5) ( some false) ( ckI (r + (1 : Int)) <| k3 p q s t (r + (1 : Int)))) ( (s119 x4 q).bind fun x6 => ifB (!x6) ( some false) ( ckI (r + (1 : Int)) <| k3 p q s t (r + (1 : Int))))) ( (s119 x4 q).bind fun x7 => ifB (!x7) ( some false) ( ckI (r + (1 : Int)) <| k3 p q s t (r + (1 : Int))))) ( some true)
def c119_2 (s119 : Tm → Int → Option Bool) (n : Nat) (k3 : Tm -> Int -> (List Tm) -> Int -> Int -> Option Bool) (p : Tm) (q : Int) : Option Bool :=
  o119_2 s119 n k3 p q
def c119_1 (s119 : Tm → Int → Option Bool) (n : Nat) (k3 : Tm -> Int -> (List Tm) -> Int -> Int -> Option Bool) (p : Tm) (q : Int) : Option Bool :=
  o119_1 s119 n (c119_2 s119 n k3) p q
def l119_3 (s119 : Tm → Int → Option Bool) (n : Nat) : Nat → Tm -> Int -> (List Tm) -> Int -> Int -> Option Bool
  | 0, _, _, _, _, _ => none
  | m + 1, p, q, s, t, r => o119_3 s119 n (l119_3 s119 n m) p q s t r
def f119 : Nat → Tm → Int → Option Bool
  | 0, _, _ => none
  | n + 1, a0, a1 => o119_0 (f119 n) n (c119_1 (f119 n) n (l119_3 (f119 n) n n)) a0 a1
def F119 : Fn := ⟨119, (.n none [] 0 .z (.n none [] 0 .z (.n (some 1) [(2, .ps 0 .tm false), (5, .one .c)] 1 .z (.n (some 2) [(2, .ps 0 .tm false), (5, .one .c)] 1 .z (.n none [] 0 (.n none [] 0 .z (.n none [] 0 (.n (some 3) [(2, .ps 0 .tm false), (5, .one .c), (38, .one (.d .tm false)), (39, .one .c), (40, .one .c)] 1 .z .z) .z)) .z))))), [.tmp 4], [.st .tm, .sc .int], [.sc .bool], false, true, 58, 5, [3]⟩
def C119 (n : Nat) : Cal := ⟨119, F119.ps, F119.rs, F119.fr, fun a => f119 n a.1 a.2.1⟩
def cs119 (s119 : Tm → Int → Option Bool) (n : Nat) : List Cal := [⟨119, [.st .tm, .sc .int], [.sc .bool], true, fun a => s119 a.1 a.2.1⟩, C131, C132, C133]
def st119_3 (p : Tm) (q : Int) (s : List Tm) (t r : Int) : SS := ⟨[(2, .v (.one (.ptr 0 0))), (5, .v (.one (.c (.int q) true))), (38, .v (.one (.c (.sl .tm s) false))), (39, .v (.one (.c (.int t) true))), (40, .v (.one (.c (.int r) true)))], [(0, some (.bst .tm p false))], 1⟩
theorem p119_3 (s119 n R p q s t r) : F119.Wl Tryz.f119 tabR (cs119 s119 n) R 3 (st119_3 p q s t r) = o119_3 s119 n (fun p q s t r => R 3 (st119_3 p q s t r)) p q s t r := by kernel_rfl
theorem m119_3 (s119 n) : ∀ m : Nat, (∀ p q s t r, F119.Wm Tryz.f119 tabR (cs119 s119 n) m 3 (st119_3 p q s t r) = l119_3 s119 n m p q s t r) := by
  intro m
  induction m with
  | zero => exact (by intros; rfl)
  | succ m ih => intros; rw [Fn.Wm_succ, p119_3]; simp only [ih]; rfl
theorem p119_0 (s119 n R x) : F119.W0 Tryz.f119 tabR (cs119 s119 n) R x = o119_0 s119 n (c119_1 s119 n (fun p q s t r => R 3 (st119_3 p q s t r))) x.1 x.2.1 := by kernel_rfl
theorem w119 (s119 n x) : F119.W Tryz.f119 tabR (cs119 s119 n) n x = o119_0 s119 n (c119_1 s119 n (l119_3 s119 n n)) x.1 x.2.1 := by
  rw [Fn.W_eq, p119_0]; simp only [m119_3 s119 n n]; try rfl
theorem okr119 : ∀ n : Nat, (C119 n).Ok Tryz.prog
  | 0 => okZ (by kernel_rfl) (fun _ => rfl)
  | n + 1 => okOf F119 Tryz.func119 htabR (cs := cs119 (f119 n) n) (by kernel_rfl) (mC (okr119 n) <| mC ok131 <| mC ok132 <| mC ok133 <| mN) (fun x => ⟨n, w119 (f119 n) n x⟩)
theorem ok119 (n : Nat) : (C119 n).Ok Tryz.prog := (okr119 n)
-- tranship/term.Right
def o91_0 (n : Nat) (a0 : Tm) : Option Bool :=
  (f119 n a0 0).bind fun x1 => some x1
def f91 (n : Nat) (a0 : Tm) : Option Bool := o91_0 n a0
def F91 : Fn := ⟨91, .z, [.tmp 2], [.st .tm], [.sc .bool], false, true, 5, 2, []⟩
def C91 (n : Nat) : Cal := ⟨91, F91.ps, F91.rs, F91.fr, fun a => f91 n a.1⟩
def cs91 (n : Nat) : List Cal := [C119 n]
theorem w91 (n x) : F91.W Tryz.f91 tabR (cs91 n) 0 x = o91_0 n x.1 := by kernel_rfl
theorem ok91 (n : Nat) : (C91 n).Ok Tryz.prog := okOf F91 Tryz.func91 htabR (cs := cs91 n) (by kernel_rfl) (mC (ok119 n) <| mN) (fun x => ⟨0, w91 n x⟩)
-- tranship/bare.Binds
def o120_0 (k1 : Int -> Int -> Bool -> Option Int) (a0 a1 : Int) : Option Int :=
  ifB (decide (a0 = (3 : Int))) ( k1 a1 a0 (decide (a0 = (3 : Int)))) ( ifB (decide (a0 = (5 : Int))) ( k1 a1 a0 (decide (a0 = (5 : Int)))) ( ifB (decide (a0 = (6 : Int))) ( k1 a1 a0 (decide (a0 = (6 : Int)))) ( ifB (decide (a0 = (7 : Int))) ( k1 a1 a0 (decide (a0 = (7 : Int)))) ( ifB (decide (a0 = (8 : Int))) ( k1 a1 a0 (decide (a0 = (8 : Int)))) ( ifB (decide (a0 = (9 : Int))) ( k1 a1 a0 (decide (a0 = (9 : Int)))) ( ifB (decide (a0 = (13 : Int))) ( k1 a1 a0 (decide (a0 = (13 : Int)))) ( ifB (decide (a0 = (14 : Int))) ( k1 a1 a0 (decide (a0 = (14 : Int)))) ( ifB (decide (a0 = (16 : Int))) ( k1 a1 a0 (decide (a0 = (16 : Int)))) ( k1 a1 a0 (decide (a0 = (17 : Int))))))))))))
def o120_1 (p q : Int) (r : Bool) : Option Int :=
  ifB r ( ifB (decide (p = (1 : Int))) ( some 1) ( some 0)) ( ifB (decide (q = (4 : Int))) ( ifB (decide (p = (1 : Int))) ( some 1) ( ifB (decide (p = (2 : Int))) ( some 1) ( some 0))) ( ifB (decide (q = (22 : Int))) ( ifB (decide (p = (2 : Int))) ( some 2) ( some 0)) ( some 0)))
def c120_1 (p q : Int) (r : Bool) : Option Int :=
  o120_1 p q r
def f120 (a0 a1 : Int) : Option Int := o120_0 (c120_1) a0 a1
def F120 : Fn := ⟨120, (.n none [] 0 .z (.n none [] 0 (.n none [] 0 .z (.n none [] 0 (.n (some 1) [(1, .one .c), (5, .one .c), (6, .one .c)] 0 .z .z) .z)) .z)), [.tmp 4], [.sc .int, .sc .int], [.sc .int], false, true, 31, 3, []⟩
def C120 : Cal := ⟨120, F120.ps, F120.rs, F120.fr, fun a => f120 a.1 a.2.1⟩
def cs120 : List Cal := []
theorem w120 (x) : F120.W Tryz.f120 tabR cs120 0 x = o120_0 (c120_1) x.1 x.2.1 := by kernel_rfl
theorem ok120 : C120.Ok Tryz.prog := okOf F120 Tryz.func120 htabR (cs := cs120) (by kernel_rfl) (mN) (fun x => ⟨0, w120 x⟩)
-- tranship/term.free
def o92_0 (s92 : Tm → Int → Option Int) (n : Nat) (k1 : Int -> Tm -> Int -> (List Tm) -> Int -> Int -> Option Int) (a0 : Tm) (a1 : Int) : Option Int :=
  ifB (decide (a0.kind = (2 : Int))) ( ckI (a0.i + (1 : Int)) <| ckI ((a0.i + (1 : Int)) - a1) <| some (max ((a0.i + (1 : Int)) - a1) 0)) ( k1 a1 a0 0 a0.kids (a0.kids.length : Int) 0)
def o92_1 (s92 : Tm → Int → Option Int) (n : Nat) (k1 : Int -> Tm -> Int -> (List Tm) -> Int -> Int -> Option Int) (q : Int) (r : Tm) (s : Int) (t : List Tm) (u p : Int) : Option Int :=
  ifB (decide (p < u)) ( atI t p fun x1 => (f120 r.kind p).bind fun x2 => ckI (q + x2) <| (s92 x1 (q + x2)).bind fun x3 => ckI (p + (1 : Int)) <| k1 q r (max s x3) t u (p + (1 : Int))) ( some s)
def l92_1 (s92 : Tm → Int → Option Int) (n : Nat) : Nat → Int -> Tm -> Int -> (List Tm) -> Int -> Int -> Option Int
  | 0, _, _, _, _, _, _ => none
  | m + 1, q, r, s, t, u, p => o92_1 s92 n (l92_1 s92 n m) q r s t u p
def f92 : Nat → Tm → Int → Option Int
  | 0, _, _ => none
  | n + 1, a0, a1 => o92_0 (f92 n) n (l92_1 (f92 n) n n) a0 a1
def F92 : Fn := ⟨92, (.n none [] 0 .z (.n none [] 0 .z (.n none [] 0 .z (.n none [] 0 (.n none [] 0 .z (.n none [] 0 (.n (some 1) [(1, .one .c), (2, .ps 0 .tm false), (5, .one .c), (18, .one (.d .tm false)), (19, .one .c), (20, .one .c)] 1 .z .z) .z)) .z)))), [.tmp 4], [.st .tm, .sc .int], [.sc .int], false, true, 37, 3, [1]⟩
def C92 (n : Nat) : Cal := ⟨92, F92.ps, F92.rs, F92.fr, fun a => f92 n a.1 a.2.1⟩
def cs92 (s92 : Tm → Int → Option Int) (n : Nat) : List Cal := [⟨92, [.st .tm, .sc .int], [.sc .int], true, fun a => s92 a.1 a.2.1⟩, C120]
def st92_1 (q : Int) (r : Tm) (s : Int) (t : List Tm) (u p : Int) : SS := ⟨[(1, .v (.one (.c (.int q) true))), (2, .v (.one (.ptr 0 0))), (5, .v (.one (.c (.int s) true))), (18, .v (.one (.c (.sl .tm t) false))), (19, .v (.one (.c (.int u) true))), (20, .v (.one (.c (.int p) true)))], [(0, some (.bst .tm r false))], 1⟩
theorem p92_1 (s92 n R q r s t u p) : F92.Wl Tryz.f92 tabR (cs92 s92 n) R 1 (st92_1 q r s t u p) = o92_1 s92 n (fun q r s t u p => R 1 (st92_1 q r s t u p)) q r s t u p := by kernel_rfl
theorem m92_1 (s92 n) : ∀ m : Nat, (∀ q r s t u p, F92.Wm Tryz.f92 tabR (cs92 s92 n) m 1 (st92_1 q r s t u p) = l92_1 s92 n m q r s t u p) := by
  intro m
  induction m with
  | zero => exact (by intros; rfl)
  | succ m ih => intros; rw [Fn.Wm_succ, p92_1]; simp only [ih]; rfl
theorem p92_0 (s92 n R x) : F92.W0 Tryz.f92 tabR (cs92 s92 n) R x = o92_0 s92 n (fun q r s t u p => R 1 (st92_1 q r s t u p)) x.1 x.2.1 := by kernel_rfl
theorem w92 (s92 n x) : F92.W Tryz.f92 tabR (cs92 s92 n) n x = o92_0 s92 n (l92_1 s92 n n) x.1 x.2.1 := by
  rw [Fn.W_eq, p92_0]; simp only [m92_1 s92 n n]; try rfl
theorem okr92 : ∀ n : Nat, (C92 n).Ok Tryz.prog
  | 0 => okZ (by kernel_rfl) (fun _ => rfl)
  | n + 1 => okOf F92 Tryz.func92 htabR (cs := cs92 (f92 n) n) (by kernel_rfl) (mC (okr92 n) <| mC ok120 <| mN) (fun x => ⟨n, w92 (f92 n) n x⟩)
theorem ok92 (n : Nat) : (C92 n).Ok Tryz.prog := (okr92 n)
-- tranship/term.Free
def o61_0 (n : Nat) (a0 : Tm) : Option Int :=
  (f91 n a0).bind fun x1 => ifB (!x1) ( some 0) ( (f92 n a0 0).bind fun x2 => some x2)
def f61 (n : Nat) (a0 : Tm) : Option Int := o61_0 n a0
def F61 : Fn := ⟨61, .z, [.tmp 2], [.st .tm], [.sc .int], false, true, 8, 2, []⟩
def C61 (n : Nat) : Cal := ⟨61, F61.ps, F61.rs, F61.fr, fun a => f61 n a.1⟩
def cs61 (n : Nat) : List Cal := [C91 n, C92 n]
theorem w61 (n x) : F61.W Tryz.f61 tabR (cs61 n) 0 x = o61_0 n x.1 := by kernel_rfl
theorem ok61 (n : Nat) : (C61 n).Ok Tryz.prog := okOf F61 Tryz.func61 htabR (cs := cs61 n) (by kernel_rfl) (mC (ok91 n) <| mC (ok92 n) <| mN) (fun x => ⟨0, w61 n x⟩)
-- tranship/term.Marked
def o89_0 (n : Nat) (a0 : Tm) : Option Bool :=
  (f119 n a0 1).bind fun x1 => some x1
def f89 (n : Nat) (a0 : Tm) : Option Bool := o89_0 n a0
def F89 : Fn := ⟨89, .z, [.tmp 2], [.st .tm], [.sc .bool], false, true, 5, 2, []⟩
def C89 (n : Nat) : Cal := ⟨89, F89.ps, F89.rs, F89.fr, fun a => f89 n a.1⟩
def cs89 (n : Nat) : List Cal := [C119 n]
theorem w89 (n x) : F89.W Tryz.f89 tabR (cs89 n) 0 x = o89_0 n x.1 := by kernel_rfl
theorem ok89 (n : Nat) : (C89 n).Ok Tryz.prog := okOf F89 Tryz.func89 htabR (cs := cs89 n) (by kernel_rfl) (mC (ok119 n) <| mN) (fun x => ⟨0, w89 n x⟩)
-- tranship/term.moved
def o90_0 (s90 : Tm → Option Bool) (n : Nat) (k1 : (List Tm) -> Int -> Int -> Option Bool) (a0 : Tm) : Option Bool :=
  ifB (decide (a0.kind = (12 : Int))) ( some true) ( k1 a0.kids (a0.kids.length : Int) 0)
def o90_1 (s90 : Tm → Option Bool) (n : Nat) (k1 : (List Tm) -> Int -> Int -> Option Bool) (q : List Tm) (r p : Int) : Option Bool :=
  ifB (decide (p < r)) ( atI q p fun x1 => (s90 x1).bind fun x2 => ifB x2 ( some true) ( ckI (p + (1 : Int)) <| k1 q r (p + (1 : Int)))) ( some false)
def l90_1 (s90 : Tm → Option Bool) (n : Nat) : Nat → (List Tm) -> Int -> Int -> Option Bool
  | 0, _, _, _ => none
  | m + 1, q, r, p => o90_1 s90 n (l90_1 s90 n m) q r p
def f90 : Nat → Tm → Option Bool
  | 0, _ => none
  | n + 1, a0 => o90_0 (f90 n) n (l90_1 (f90 n) n n) a0
def F90 : Fn := ⟨90, (.n none [] 0 .z (.n none [] 0 .z (.n none [] 0 (.n none [] 0 .z (.n none [] 0 (.n (some 1) [(9, .one (.d .tm false)), (10, .one .c), (11, .one .c)] 0 .z .z) .z)) .z))), [.tmp 2], [.st .tm], [.sc .bool], false, true, 18, 3, [1]⟩
def C90 (n : Nat) : Cal := ⟨90, F90.ps, F90.rs, F90.fr, fun a => f90 n a.1⟩
def cs90 (s90 : Tm → Option Bool) (n : Nat) : List Cal := [⟨90, [.st .tm], [.sc .bool], true, fun a => s90 a.1⟩]
def st90_1 (q : List Tm) (r p : Int) : SS := ⟨[(9, .v (.one (.c (.sl .tm q) false))), (10, .v (.one (.c (.int r) true))), (11, .v (.one (.c (.int p) true)))], [], 0⟩
theorem p90_1 (s90 n R q r p) : F90.Wl Tryz.f90 tabR (cs90 s90 n) R 1 (st90_1 q r p) = o90_1 s90 n (fun q r p => R 1 (st90_1 q r p)) q r p := by kernel_rfl
theorem m90_1 (s90 n) : ∀ m : Nat, (∀ q r p, F90.Wm Tryz.f90 tabR (cs90 s90 n) m 1 (st90_1 q r p) = l90_1 s90 n m q r p) := by
  intro m
  induction m with
  | zero => exact (by intros; rfl)
  | succ m ih => intros; rw [Fn.Wm_succ, p90_1]; simp only [ih]; rfl
theorem p90_0 (s90 n R x) : F90.W0 Tryz.f90 tabR (cs90 s90 n) R x = o90_0 s90 n (fun q r p => R 1 (st90_1 q r p)) x.1 := by kernel_rfl
theorem w90 (s90 n x) : F90.W Tryz.f90 tabR (cs90 s90 n) n x = o90_0 s90 n (l90_1 s90 n n) x.1 := by
  rw [Fn.W_eq, p90_0]; simp only [m90_1 s90 n n]; try rfl
theorem okr90 : ∀ n : Nat, (C90 n).Ok Tryz.prog
  | 0 => okZ (by kernel_rfl) (fun _ => rfl)
  | n + 1 => okOf F90 Tryz.func90 htabR (cs := cs90 (f90 n) n) (by kernel_rfl) (mC (okr90 n) <| mN) (fun x => ⟨n, w90 (f90 n) n x⟩)
theorem ok90 (n : Nat) : (C90 n).Ok Tryz.prog := (okr90 n)
-- tranship/term.Pure
def o58_0 (n : Nat) (a0 : Tm) : Option Bool :=
  (f89 n a0).bind fun x1 => ifB x1 ( (f90 n a0).bind fun x2 => some (!x2)) ( some false)
def f58 (n : Nat) (a0 : Tm) : Option Bool := o58_0 n a0
def F58 : Fn := ⟨58, .z, [.tmp 2], [.st .tm], [.sc .bool], false, true, 10, 2, []⟩
def C58 (n : Nat) : Cal := ⟨58, F58.ps, F58.rs, F58.fr, fun a => f58 n a.1⟩
def cs58 (n : Nat) : List Cal := [C89 n, C90 n]
theorem w58 (n x) : F58.W Tryz.f58 tabR (cs58 n) 0 x = o58_0 n x.1 := by kernel_rfl
theorem ok58 (n : Nat) : (C58 n).Ok Tryz.prog := okOf F58 Tryz.func58 htabR (cs := cs58 n) (by kernel_rfl) (mC (ok89 n) <| mC (ok90 n) <| mN) (fun x => ⟨0, w58 n x⟩)
-- tranship/bare.Sort
def o63_0 (a0 : Int) : Option Tm :=
  some (Tm.mk 1 a0 0 0 ([] : List Tm))
def f63 (a0 : Int) : Option Tm := o63_0 a0
def F63 : Fn := ⟨63, .z, [.cell 2 29], [.sc .int], [.st .tm], false, true, 5, 2, []⟩
def C63 : Cal := ⟨63, F63.ps, F63.rs, F63.fr, fun a => f63 a.1⟩
def cs63 : List Cal := []
theorem w63 (x) : F63.W Tryz.f63 tabR cs63 0 x = o63_0 x.1 := by kernel_rfl
theorem ok63 : C63.Ok Tryz.prog := okOf F63 Tryz.func63 htabR (cs := cs63) (by kernel_rfl) (mN) (fun x => ⟨0, w63 x⟩)
-- tranship/bare.Lift
def o121_0 (s121 : Tm → Int → Int → Option (Tm × Bool)) (n : Nat) (k2 : Int -> Int -> Tm -> Int -> Int -> Int -> Int -> Bool -> Option (Tm × Bool)) (a0 : Tm) (a1 a2 : Int) : Option (Tm × Bool) :=
  ifB (decide (a0.kind = (2 : Int))) ( k2 a1 a2 a0 0 0 0 0 (decide (a2 ≤ a0.i))) ( k2 a1 a2 a0 0 0 0 0 false)
def o121_1 (s121 : Tm → Int → Int → Option (Tm × Bool)) (n : Nat) (k3 : Int -> Int -> Tm -> Int -> Int -> Int -> Int -> (List Tm) -> (List Tm) -> Int -> Int -> Option (Tm × Bool)) (q r : Int) (p : Tm) (s t u v : Int) : Option (Tm × Bool) :=
  ifB (decide ((p.kids.length : Int) = (0 : Int))) ( some ((Tm.mk p.kind p.i p.j p.n ([] : List Tm)), true)) ( ckB (decide (0 ≤ (p.kids.length : Int)) && (decide ((p.kids.length : Int) ≤ (p.kids.length : Int)) && decide ((56 : Nat) * (p.kids.length : Int) ≤ 281474976710656))) <| k3 q r p s t u v (List.replicate (p.kids.length : Int).toNat (Tm.mk 0 0 0 0 [])) p.kids (p.kids.length : Int) 0)
def o121_2 (s121 : Tm → Int → Int → Option (Tm × Bool)) (n : Nat) (k1 : Int -> Int -> Tm -> Int -> Int -> Int -> Int -> Option (Tm × Bool)) (q r : Int) (p : Tm) (s t u v : Int) (c : Bool) : Option (Tm × Bool) :=
  ifB c ( ckI ((2147483647 : Int) - p.i) <| ifB (decide (((2147483647 : Int) - p.i) < q)) ( some ((Tm.mk 0 0 0 0 []), false)) ( ckI (p.i + q) <| k1 q r (Tm.mk p.kind (p.i + q) p.j p.n p.kids) s t u v)) ( k1 q r p s t u v)
def o121_3 (s121 : Tm → Int → Int → Option (Tm × Bool)) (n : Nat) (k3 : Int -> Int -> Tm -> Int -> Int -> Int -> Int -> (List Tm) -> (List Tm) -> Int -> Int -> Option (Tm × Bool)) (q r : Int) (p : Tm) (s t u v : Int) (y z : List Tm) (b w : Int) : Option (Tm × Bool) :=
  ifB (decide (w < b)) ( atI z w fun x1 => (f120 p.kind w).bind fun x2 => ckI (r + x2) <| (s121 x1 q (r + x2)).bind fun x3 => ifB (!x3.2) ( some ((Tm.mk 0 0 0 0 []), false)) ( ckB (decide (0 ≤ w) && decide (w < y.length)) <| ckB (decide (w.toNat < y.length)) <| ckI (w + (1 : Int)) <| k3 q r p s t u v (y.set w.toNat (Tm.mk x3.1.kind x3.1.i x3.1.j x3.1.n x3.1.kids)) z b (w + (1 : Int)))) ( some ((Tm.mk p.kind p.i p.j p.n y), true))
def c121_1 (s121 : Tm → Int → Int → Option (Tm × Bool)) (n : Nat) (k3 : Int -> Int -> Tm -> Int -> Int -> Int -> Int -> (List Tm) -> (List Tm) -> Int -> Int -> Option (Tm × Bool)) (q r : Int) (p : Tm) (s t u v : Int) : Option (Tm × Bool) :=
  o121_1 s121 n k3 q r p s t u v
def c121_2 (s121 : Tm → Int → Int → Option (Tm × Bool)) (n : Nat) (k3 : Int -> Int -> Tm -> Int -> Int -> Int -> Int -> (List Tm) -> (List Tm) -> Int -> Int -> Option (Tm × Bool)) (q r : Int) (p : Tm) (s t u v : Int) (c : Bool) : Option (Tm × Bool) :=
  o121_2 s121 n (c121_1 s121 n k3) q r p s t u v c
def l121_3 (s121 : Tm → Int → Int → Option (Tm × Bool)) (n : Nat) : Nat → Int -> Int -> Tm -> Int -> Int -> Int -> Int -> (List Tm) -> (List Tm) -> Int -> Int -> Option (Tm × Bool)
  | 0, _, _, _, _, _, _, _, _, _, _, _ => none
  | m + 1, q, r, p, s, t, u, v, y, z, b, w => o121_3 s121 n (l121_3 s121 n m) q r p s t u v y z b w
def f121 : Nat → Tm → Int → Int → Option (Tm × Bool)
  | 0, _, _, _ => none
  | n + 1, a0, a1, a2 => o121_0 (f121 n) n (c121_2 (f121 n) n (l121_3 (f121 n) n n)) a0 a1 a2
def F121 : Fn := ⟨121, (.n none [] 0 .z (.n (some 1) [(1, .one .c), (2, .one .c), (3, .ps 0 .tm false), (6, .p 1 [.c, .c, .c, .c, .k])] 2 (.n (some 2) [(1, .one .c), (2, .one .c), (3, .ps 0 .tm false), (6, .p 1 [.c, .c, .c, .c, .k]), (21, .one .c)] 2 .z .z) (.n none [] 0 .z (.n none [] 0 .z (.n none [] 0 (.n none [] 0 .z (.n none [] 0 (.n (some 3) [(1, .one .c), (2, .one .c), (3, .ps 0 .tm false), (6, .p 1 [.c, .c, .c, .c, .k]), (8, .one (.r 2 29 .tm true)), (44, .one (.d .tm false)), (45, .one .c), (46, .one .c)] 3 .z .z) .z)) .z))))), [.cell 6 29, .tmp 7], [.st .tm, .sc .int, .sc .int], [.st .tm, .sc .bool], false, true, 74, 5, [3]⟩
def C121 (n : Nat) : Cal := ⟨121, F121.ps, F121.rs, F121.fr, fun a => f121 n a.1 a.2.1 a.2.2.1⟩
def cs121 (s121 : Tm → Int → Int → Option (Tm × Bool)) (n : Nat) : List Cal := [C120, ⟨121, [.st .tm, .sc .int, .sc .int], [.st .tm, .sc .bool], true, fun a => s121 a.1 a.2.1 a.2.2.1⟩]
def st121_3 (q r : Int) (p : Tm) (s t u v : Int) (y z : List Tm) (b w : Int) : SS := ⟨[(1, .v (.one (.c (.int q) true))), (2, .v (.one (.c (.int r) true))), (3, .v (.one (.ptr 0 0))), (6, .v (.one (.ptr 1 0))), (8, .v (.one (.arr 2))), (44, .v (.one (.c (.sl .tm z) false))), (45, .v (.one (.c (.int b) true))), (46, .v (.one (.c (.int w) true)))], [(0, some (.bst .tm p false)), (1, some (.box [.c (.int s) true, .c (.int t) true, .c (.int u) true, .c (.int v) true, .nils])), (2, some (.row 29 .tm y true))], 3⟩
theorem p121_3 (s121 n R q r p s t u v y z b w) : F121.Wl Tryz.f121 tabR (cs121 s121 n) R 3 (st121_3 q r p s t u v y z b w) = o121_3 s121 n (fun q r p s t u v y z b w => R 3 (st121_3 q r p s t u v y z b w)) q r p s t u v y z b w := by kernel_rfl
theorem m121_3 (s121 n) : ∀ m : Nat, (∀ q r p s t u v y z b w, F121.Wm Tryz.f121 tabR (cs121 s121 n) m 3 (st121_3 q r p s t u v y z b w) = l121_3 s121 n m q r p s t u v y z b w) := by
  intro m
  induction m with
  | zero => exact (by intros; rfl)
  | succ m ih => intros; rw [Fn.Wm_succ, p121_3]; simp only [ih]; rfl
theorem p121_0 (s121 n R x) : F121.W0 Tryz.f121 tabR (cs121 s121 n) R x = o121_0 s121 n (c121_2 s121 n (fun q r p s t u v y z b w => R 3 (st121_3 q r p s t u v y z b w))) x.1 x.2.1 x.2.2.1 := by kernel_rfl
theorem w121 (s121 n x) : F121.W Tryz.f121 tabR (cs121 s121 n) n x = o121_0 s121 n (c121_2 s121 n (l121_3 s121 n n)) x.1 x.2.1 x.2.2.1 := by
  rw [Fn.W_eq, p121_0]; simp only [m121_3 s121 n n]; try rfl
theorem okr121 : ∀ n : Nat, (C121 n).Ok Tryz.prog
  | 0 => okZ (by kernel_rfl) (fun _ => rfl)
  | n + 1 => okOf F121 Tryz.func121 htabR (cs := cs121 (f121 n) n) (by kernel_rfl) (mC ok120 <| mC (okr121 n) <| mN) (fun x => ⟨n, w121 (f121 n) n x⟩)
theorem ok121 (n : Nat) : (C121 n).Ok Tryz.prog := (okr121 n)
-- tranship/bare.Var
def o65_0 (a0 : Int) : Option Tm :=
  some (Tm.mk 2 a0 0 0 ([] : List Tm))
def f65 (a0 : Int) : Option Tm := o65_0 a0
def F65 : Fn := ⟨65, .z, [.cell 2 29], [.sc .int], [.st .tm], false, true, 5, 2, []⟩
def C65 : Cal := ⟨65, F65.ps, F65.rs, F65.fr, fun a => f65 a.1⟩
def cs65 : List Cal := []
theorem w65 (x) : F65.W Tryz.f65 tabR cs65 0 x = o65_0 x.1 := by kernel_rfl
theorem ok65 : C65.Ok Tryz.prog := okOf F65 Tryz.func65 htabR (cs := cs65) (by kernel_rfl) (mN) (fun x => ⟨0, w65 x⟩)
-- tranship/bare.Same
def o122_0 (s122 : Tm → Tm → Option Bool) (n : Nat) (k1 : Tm -> Tm -> Option Bool) (a0 a1 : Tm) : Option Bool :=
  ifB (!decide (a0.kind = a1.kind)) ( some false) ( ifB (!decide (a0.i = a1.i)) ( some false) ( ifB (!decide (a0.j = a1.j)) ( some false) ( ifB (!decide (a0.n = a1.n)) ( some false) ( ifB (!decide ((a0.kids.length : Int) = (a1.kids.length : Int))) ( some false) ( k1 a0 a1)))))
def o122_1 (s122 : Tm → Tm → Option Bool) (n : Nat) (k2 : Tm -> Tm -> Int -> Int -> Option Bool) (p q : Tm) : Option Bool :=
  k2 p q (p.kids.length : Int) 0
def o122_2 (s122 : Tm → Tm → Option Bool) (n : Nat) (k2 : Tm -> Tm -> Int -> Int -> Option Bool) (p q : Tm) (s r : Int) : Option Bool :=
  ifB (decide (r < s)) ( atI p.kids r fun x1 => atI q.kids r fun x2 => (s122 x1 x2).bind fun x3 => ifB (!x3) ( some false) ( ckI (r + (1 : Int)) <| k2 p q s (r + (1 : Int)))) ( some true)
def c122_1 (s122 : Tm → Tm → Option Bool) (n : Nat) (k2 : Tm -> Tm -> Int -> Int -> Option Bool) (p q : Tm) : Option Bool :=
  o122_1 s122 n k2 p q
def l122_2 (s122 : Tm → Tm → Option Bool) (n : Nat) : Nat → Tm -> Tm -> Int -> Int -> Option Bool
  | 0, _, _, _, _ => none
  | m + 1, p, q, s, r => o122_2 s122 n (l122_2 s122 n m) p q s r
def f122 : Nat → Tm → Tm → Option Bool
  | 0, _, _ => none
  | n + 1, a0, a1 => o122_0 (f122 n) n (c122_1 (f122 n) n (l122_2 (f122 n) n n)) a0 a1
def F122 : Fn := ⟨122, (.n none [] 0 .z (.n (some 1) [(2, .ps 0 .tm false), (3, .ps 1 .tm false)] 2 .z (.n none [] 0 (.n none [] 0 .z (.n none [] 0 (.n (some 2) [(2, .ps 0 .tm false), (3, .ps 1 .tm false), (43, .one .c), (44, .one .c)] 2 .z .z) .z)) .z))), [.tmp 4], [.st .tm, .st .tm], [.sc .bool], false, true, 60, 4, [2]⟩
def C122 (n : Nat) : Cal := ⟨122, F122.ps, F122.rs, F122.fr, fun a => f122 n a.1 a.2.1⟩
def cs122 (s122 : Tm → Tm → Option Bool) (n : Nat) : List Cal := [⟨122, [.st .tm, .st .tm], [.sc .bool], true, fun a => s122 a.1 a.2.1⟩]
def st122_2 (p q : Tm) (s r : Int) : SS := ⟨[(2, .v (.one (.ptr 0 0))), (3, .v (.one (.ptr 1 0))), (43, .v (.one (.c (.int s) true))), (44, .v (.one (.c (.int r) true)))], [(0, some (.bst .tm p false)), (1, some (.bst .tm q false))], 2⟩
theorem p122_2 (s122 n R p q s r) : F122.Wl Tryz.f122 tabR (cs122 s122 n) R 2 (st122_2 p q s r) = o122_2 s122 n (fun p q s r => R 2 (st122_2 p q s r)) p q s r := by kernel_rfl
theorem m122_2 (s122 n) : ∀ m : Nat, (∀ p q s r, F122.Wm Tryz.f122 tabR (cs122 s122 n) m 2 (st122_2 p q s r) = l122_2 s122 n m p q s r) := by
  intro m
  induction m with
  | zero => exact (by intros; rfl)
  | succ m ih => intros; rw [Fn.Wm_succ, p122_2]; simp only [ih]; rfl
theorem p122_0 (s122 n R x) : F122.W0 Tryz.f122 tabR (cs122 s122 n) R x = o122_0 s122 n (c122_1 s122 n (fun p q s r => R 2 (st122_2 p q s r))) x.1 x.2.1 := by kernel_rfl
theorem w122 (s122 n x) : F122.W Tryz.f122 tabR (cs122 s122 n) n x = o122_0 s122 n (c122_1 s122 n (l122_2 s122 n n)) x.1 x.2.1 := by
  rw [Fn.W_eq, p122_0]; simp only [m122_2 s122 n n]; try rfl
theorem okr122 : ∀ n : Nat, (C122 n).Ok Tryz.prog
  | 0 => okZ (by kernel_rfl) (fun _ => rfl)
  | n + 1 => okOf F122 Tryz.func122 htabR (cs := cs122 (f122 n) n) (by kernel_rfl) (mC (okr122 n) <| mN) (fun x => ⟨n, w122 (f122 n) n x⟩)
theorem ok122 (n : Nat) : (C122 n).Ok Tryz.prog := (okr122 n)
-- tranship/term.Same
def o96_0 (n : Nat) (a0 a1 : Tm) : Option Bool :=
  (f122 n a0 a1).bind fun x1 => some x1
def f96 (n : Nat) (a0 a1 : Tm) : Option Bool := o96_0 n a0 a1
def F96 : Fn := ⟨96, .z, [.tmp 4], [.st .tm, .st .tm], [.sc .bool], false, true, 8, 2, []⟩
def C96 (n : Nat) : Cal := ⟨96, F96.ps, F96.rs, F96.fr, fun a => f96 n a.1 a.2.1⟩
def cs96 (n : Nat) : List Cal := [C122 n]
theorem w96 (n x) : F96.W Tryz.f96 tabR (cs96 n) 0 x = o96_0 n x.1 x.2.1 := by kernel_rfl
theorem ok96 (n : Nat) : (C96 n).Ok Tryz.prog := okOf F96 Tryz.func96 htabR (cs := cs96 n) (by kernel_rfl) (mC (ok122 n) <| mN) (fun x => ⟨0, w96 n x⟩)
-- tranship/bare.Copy
def o35_0 (s35 : Tm → Option Tm) (n : Nat) (k1 : Tm -> Int -> Int -> Int -> Int -> (List Tm) -> (List Tm) -> Int -> Int -> Option Tm) (a0 : Tm) : Option Tm :=
  ifB (decide ((a0.kids.length : Int) = (0 : Int))) ( some (Tm.mk a0.kind a0.i a0.j a0.n ([] : List Tm))) ( ckB (decide (0 ≤ (a0.kids.length : Int)) && (decide ((a0.kids.length : Int) ≤ (a0.kids.length : Int)) && decide ((56 : Nat) * (a0.kids.length : Int) ≤ 281474976710656))) <| k1 a0 0 0 0 0 (List.replicate (a0.kids.length : Int).toNat (Tm.mk 0 0 0 0 [])) a0.kids (a0.kids.length : Int) 0)
def o35_1 (s35 : Tm → Option Tm) (n : Nat) (k1 : Tm -> Int -> Int -> Int -> Int -> (List Tm) -> (List Tm) -> Int -> Int -> Option Tm) (q : Tm) (u v w y : Int) (r s : List Tm) (t p : Int) : Option Tm :=
  ifB (decide (p < t)) ( atI s p fun x1 => (s35 x1).bind fun x2 => ckB (decide (0 ≤ p) && decide (p < r.length)) <| ckB (decide (p.toNat < r.length)) <| ckI (p + (1 : Int)) <| k1 q u v w y (r.set p.toNat (Tm.mk x2.kind x2.i x2.j x2.n x2.kids)) s t (p + (1 : Int))) ( some (Tm.mk q.kind q.i q.j q.n r))
def l35_1 (s35 : Tm → Option Tm) (n : Nat) : Nat → Tm -> Int -> Int -> Int -> Int -> (List Tm) -> (List Tm) -> Int -> Int -> Option Tm
  | 0, _, _, _, _, _, _, _, _, _ => none
  | m + 1, q, u, v, w, y, r, s, t, p => o35_1 s35 n (l35_1 s35 n m) q u v w y r s t p
def f35 : Nat → Tm → Option Tm
  | 0, _ => none
  | n + 1, a0 => o35_0 (f35 n) n (l35_1 (f35 n) n n) a0
def F35 : Fn := ⟨35, (.n none [] 0 .z (.n none [] 0 .z (.n none [] 0 .z (.n none [] 0 (.n none [] 0 .z (.n none [] 0 (.n (some 1) [(1, .ps 0 .tm false), (2, .p 1 [.c, .c, .c, .c, .k]), (3, .one (.r 2 29 .tm true)), (17, .one (.d .tm false)), (18, .one .c), (19, .one .c)] 3 .z .z) .z)) .z)))), [.cell 2 29], [.st .tm], [.st .tm], false, true, 33, 3, [1]⟩
def C35 (n : Nat) : Cal := ⟨35, F35.ps, F35.rs, F35.fr, fun a => f35 n a.1⟩
def cs35 (s35 : Tm → Option Tm) (n : Nat) : List Cal := [⟨35, [.st .tm], [.st .tm], true, fun a => s35 a.1⟩]
def st35_1 (q : Tm) (u v w y : Int) (r s : List Tm) (t p : Int) : SS := ⟨[(1, .v (.one (.ptr 0 0))), (2, .v (.one (.ptr 1 0))), (3, .v (.one (.arr 2))), (17, .v (.one (.c (.sl .tm s) false))), (18, .v (.one (.c (.int t) true))), (19, .v (.one (.c (.int p) true)))], [(0, some (.bst .tm q false)), (1, some (.box [.c (.int u) true, .c (.int v) true, .c (.int w) true, .c (.int y) true, .nils])), (2, some (.row 29 .tm r true))], 3⟩
theorem p35_1 (s35 n R q u v w y r s t p) : F35.Wl Tryz.f35 tabR (cs35 s35 n) R 1 (st35_1 q u v w y r s t p) = o35_1 s35 n (fun q u v w y r s t p => R 1 (st35_1 q u v w y r s t p)) q u v w y r s t p := by kernel_rfl
theorem m35_1 (s35 n) : ∀ m : Nat, (∀ q u v w y r s t p, F35.Wm Tryz.f35 tabR (cs35 s35 n) m 1 (st35_1 q u v w y r s t p) = l35_1 s35 n m q u v w y r s t p) := by
  intro m
  induction m with
  | zero => exact (by intros; rfl)
  | succ m ih => intros; rw [Fn.Wm_succ, p35_1]; simp only [ih]; rfl
theorem p35_0 (s35 n R x) : F35.W0 Tryz.f35 tabR (cs35 s35 n) R x = o35_0 s35 n (fun q u v w y r s t p => R 1 (st35_1 q u v w y r s t p)) x.1 := by kernel_rfl
theorem w35 (s35 n x) : F35.W Tryz.f35 tabR (cs35 s35 n) n x = o35_0 s35 n (l35_1 s35 n n) x.1 := by
  rw [Fn.W_eq, p35_0]; simp only [m35_1 s35 n n]; try rfl
theorem okr35 : ∀ n : Nat, (C35 n).Ok Tryz.prog
  | 0 => okZ (by kernel_rfl) (fun _ => rfl)
  | n + 1 => okOf F35 Tryz.func35 htabR (cs := cs35 (f35 n) n) (by kernel_rfl) (mC (okr35 n) <| mN) (fun x => ⟨n, w35 (f35 n) n x⟩)
theorem ok35 (n : Nat) : (C35 n).Ok Tryz.prog := (okr35 n)
-- tranship/bare.Of
def o105_0 (a0 a1 a2 a3 : Int) (a4 : List Tm) : Option Tm :=
  ifB (decide ((0 : Int) < (a4.length : Int))) ( ckB (decide (a4.length * 56 ≤ 140737488355328) && decide (a4.length ≤ 9223372036854775807)) <| some (Tm.mk a0 a1 a2 a3 a4)) ( some (Tm.mk a0 a1 a2 a3 ([] : List Tm)))
def f105 (a0 a1 a2 a3 : Int) (a4 : List Tm) : Option Tm := o105_0 a0 a1 a2 a3 a4
def F105 : Fn := ⟨105, .z, [.cell 10 29], [.sc .int, .sc .int, .sc .int, .sc .int, .sl .tm], [.st .tm], false, false, 24, 2, []⟩
def C105 : Cal := ⟨105, F105.ps, F105.rs, F105.fr, fun a => f105 a.1 a.2.1 a.2.2.1 a.2.2.2.1 a.2.2.2.2.1⟩
def cs105 : List Cal := []
theorem w105 (x) : F105.W Tryz.f105 tabR cs105 0 x = o105_0 x.1 x.2.1 x.2.2.1 x.2.2.2.1 x.2.2.2.2.1 := by kernel_rfl
theorem ok105 : C105.Ok Tryz.prog := okOf F105 Tryz.func105 htabR (cs := cs105) (by kernel_rfl) (mN) (fun x => ⟨0, w105 x⟩)
def F105p : Fn := ⟨105, .z, [.cell 10 29], [.sc .int, .sc .int, .sc .int, .sc .int, .sl .tm], [.pst .tm], false, true, 24, 2, []⟩
def C105p : Cal := ⟨105, F105p.ps, F105p.rs, F105p.fr, fun a => f105 a.1 a.2.1 a.2.2.1 a.2.2.2.1 a.2.2.2.2.1⟩
def cs105p : List Cal := []
theorem w105p (x) : F105p.W Tryz.f105 tabR cs105p 0 x = o105_0 x.1 x.2.1 x.2.2.1 x.2.2.2.1 x.2.2.2.2.1 := by kernel_rfl
theorem ok105p : C105p.Ok Tryz.prog := okOf F105p Tryz.func105 htabR (cs := cs105p) (by kernel_rfl) (mN) (fun x => ⟨0, w105p x⟩)
-- tranship/transhipref04.Kids
def o137_0 (k1 : Int -> Int -> Bool -> Option Int) (a0 a1 : Int) : Option Int :=
  ifB (decide (a0 = (1 : Int))) ( k1 a1 a0 (decide (a0 = (1 : Int)))) ( k1 a1 a0 (decide (a0 = (2 : Int))))
def o137_1 (k2 : Int -> Int -> Bool -> Option Int) (q p : Int) (s : Bool) : Option Int :=
  ifB s ( some 0) ( ifB (decide (p = (18 : Int))) ( k2 q p (decide (p = (18 : Int)))) ( k2 q p (decide (p = (19 : Int)))))
def o137_2 (k3 : Int -> Int -> Bool -> Option Int) (q p : Int) (t : Bool) : Option Int :=
  ifB t ( some 1) ( ifB (decide (p = (3 : Int))) ( k3 q p (decide (p = (3 : Int)))) ( ifB (decide (p = (6 : Int))) ( k3 q p (decide (p = (6 : Int)))) ( ifB (decide (p = (13 : Int))) ( k3 q p (decide (p = (13 : Int)))) ( ifB (decide (p = (14 : Int))) ( k3 q p (decide (p = (14 : Int)))) ( ifB (decide (p = (15 : Int))) ( k3 q p (decide (p = (15 : Int)))) ( ifB (decide (p = (16 : Int))) ( k3 q p (decide (p = (16 : Int)))) ( ifB (decide (p = (21 : Int))) ( k3 q p (decide (p = (21 : Int)))) ( k3 q p (decide (p = (11 : Int)))))))))))
def o137_3 (k4 : Int -> Int -> Bool -> Option Int) (q p : Int) (u : Bool) : Option Int :=
  ifB u ( some 2) ( ifB (decide (p = (4 : Int))) ( k4 q p (decide (p = (4 : Int)))) ( ifB (decide (p = (8 : Int))) ( k4 q p (decide (p = (8 : Int)))) ( ifB (decide (p = (9 : Int))) ( k4 q p (decide (p = (9 : Int)))) ( ifB (decide (p = (10 : Int))) ( k4 q p (decide (p = (10 : Int)))) ( k4 q p (decide (p = (20 : Int))))))))
def o137_4 (k5 : Int -> Int -> Bool -> Option Int) (q p : Int) (v : Bool) : Option Int :=
  ifB v ( some 3) ( ifB (decide (p = (5 : Int))) ( k5 q p (decide (p = (5 : Int)))) ( ifB (decide (p = (7 : Int))) ( k5 q p (decide (p = (7 : Int)))) ( ifB (decide (p = (12 : Int))) ( k5 q p (decide (p = (12 : Int)))) ( k5 q p (decide (p = (17 : Int)))))))
def o137_5 (k6 : Int -> (List Int) -> Bool -> Option Int) (q p : Int) (w : Bool) : Option Int :=
  ifB w ( some 4) ( ifB (decide (p = (22 : Int))) ( some 6) ( ifB (decide (p = (23 : Int))) ( ifB (decide ((1 : Int) ≤ q)) ( k6 q [(5 : Int), (5 : Int), (4 : Int), (6 : Int), (4 : Int), (4 : Int), (5 : Int), (4 : Int), (5 : Int), (4 : Int), (4 : Int), (6 : Int), (6 : Int), (6 : Int), (9 : Int), (12 : Int), (12 : Int), (9 : Int), (9 : Int), (9 : Int), (6 : Int)] (decide (q ≤ ([(5 : Int), (5 : Int), (4 : Int), (6 : Int), (4 : Int), (4 : Int), (5 : Int), (4 : Int), (5 : Int), (4 : Int), (4 : Int), (6 : Int), (6 : Int), (6 : Int), (9 : Int), (12 : Int), (12 : Int), (9 : Int), (9 : Int), (9 : Int), (6 : Int)].length : Int)))) ( k6 q [(5 : Int), (5 : Int), (4 : Int), (6 : Int), (4 : Int), (4 : Int), (5 : Int), (4 : Int), (5 : Int), (4 : Int), (4 : Int), (6 : Int), (6 : Int), (6 : Int), (9 : Int), (12 : Int), (12 : Int), (9 : Int), (9 : Int), (9 : Int), (6 : Int)] false)) ( some (-1 : Int))))
def o137_6 (q : Int) (r : List Int) (y : Bool) : Option Int :=
  ifB y ( ckI (q - (1 : Int)) <| ckB (decide (0 ≤ (q - (1 : Int))) && decide ((q - (1 : Int)) < r.length)) <| atN r (q - (1 : Int)).toNat fun x1 => some x1) ( some (-1 : Int))
def c137_6 (q : Int) (r : List Int) (y : Bool) : Option Int :=
  o137_6 q r y
def c137_5 (q p : Int) (w : Bool) : Option Int :=
  o137_5 (c137_6) q p w
def c137_4 (q p : Int) (v : Bool) : Option Int :=
  o137_4 (c137_5) q p v
def c137_3 (q p : Int) (u : Bool) : Option Int :=
  o137_3 (c137_4) q p u
def c137_2 (q p : Int) (t : Bool) : Option Int :=
  o137_2 (c137_3) q p t
def c137_1 (q p : Int) (s : Bool) : Option Int :=
  o137_1 (c137_2) q p s
def f137 (a0 a1 : Int) : Option Int := o137_0 (c137_1) a0 a1
def F137 : Fn := ⟨137, (.n none [] 0 .z (.n none [] 0 (.n none [] 0 .z (.n none [] 0 (.n (some 1) [(1, .one .c), (6, .one .c), (7, .one .c)] 0 .z (.n none [] 0 .z (.n (some 2) [(1, .one .c), (6, .one .c), (10, .one .c)] 0 .z (.n none [] 0 .z (.n (some 3) [(1, .one .c), (6, .one .c), (13, .one .c)] 0 .z (.n none [] 0 .z (.n (some 4) [(1, .one .c), (6, .one .c), (22, .one .c)] 0 .z (.n none [] 0 .z (.n (some 5) [(1, .one .c), (6, .one .c), (28, .one .c)] 0 .z (.n none [] 0 .z (.n none [] 0 .z (.n none [] 0 .z (.n none [] 0 .z (.n none [] 0 (.n none [] 0 .z (.n (some 6) [(1, .one .c), (5, .one (.r 0 3 .int true)), (45, .one .c)] 1 .z .z)) .z)))))))))))))) .z)) .z)), [.tmp 4], [.sc .int, .sc .int], [.sc .int], false, true, 51, 8, []⟩
def C137 : Cal := ⟨137, F137.ps, F137.rs, F137.fr, fun a => f137 a.1 a.2.1⟩
def cs137 : List Cal := []
theorem w137 (x) : F137.W Tryz.f137 tabR cs137 0 x = o137_0 (c137_1) x.1 x.2.1 := by kernel_rfl
theorem ok137 : C137.Ok Tryz.prog := okOf F137 Tryz.func137 htabR (cs := cs137) (by kernel_rfl) (mN) (fun x => ⟨0, w137 x⟩)
-- tranship/transhipref04.level
def o145_0 (a0 : Int) : Option Bool :=
  ifB (decide ((0 : Int) ≤ a0)) ( some (decide (a0 ≤ (1000 : Int)))) ( some false)
def f145 (a0 : Int) : Option Bool := o145_0 a0
def F145 : Fn := ⟨145, .z, [.tmp 2], [.sc .int], [.sc .bool], false, true, 9, 2, []⟩
def C145 : Cal := ⟨145, F145.ps, F145.rs, F145.fr, fun a => f145 a.1⟩
def cs145 : List Cal := []
theorem w145 (x) : F145.W Tryz.f145 tabR cs145 0 x = o145_0 x.1 := by kernel_rfl
theorem ok145 : C145.Ok Tryz.prog := okOf F145 Tryz.func145 htabR (cs := cs145) (by kernel_rfl) (mN) (fun x => ⟨0, w145 x⟩)
-- tranship/transhipref04.numbers
def o138_0 (k1 : Tm -> Int -> Bool -> Option Bool) (a0 : Tm) : Option Bool :=
  ifB (decide (a0.kind = (2 : Int))) ( ifB (decide ((0 : Int) ≤ a0.i)) ( ifB (decide (a0.i ≤ (2147483647 : Int))) ( ifB (decide (a0.j = (0 : Int))) ( some (decide (a0.n = (0 : Int)))) ( some false)) ( some false)) ( some false)) ( ifB (decide (a0.kind = (3 : Int))) ( k1 a0 a0.kind (decide (a0.kind = (3 : Int)))) ( ifB (decide (a0.kind = (4 : Int))) ( k1 a0 a0.kind (decide (a0.kind = (4 : Int)))) ( ifB (decide (a0.kind = (5 : Int))) ( k1 a0 a0.kind (decide (a0.kind = (5 : Int)))) ( ifB (decide (a0.kind = (6 : Int))) ( k1 a0 a0.kind (decide (a0.kind = (6 : Int)))) ( ifB (decide (a0.kind = (7 : Int))) ( k1 a0 a0.kind (decide (a0.kind = (7 : Int)))) ( ifB (decide (a0.kind = (8 : Int))) ( k1 a0 a0.kind (decide (a0.kind = (8 : Int)))) ( k1 a0 a0.kind (decide (a0.kind = (9 : Int))))))))))
def o138_1 (k2 : Tm -> Int -> Bool -> Option Bool) (p : Tm) (q : Int) (r : Bool) : Option Bool :=
  ifB r ( (f145 p.i).bind fun x1 => ifB x1 ( (f145 p.j).bind fun x2 => ifB x2 ( some (decide (p.n = (0 : Int)))) ( some false)) ( some false)) ( ifB (decide (q = (1 : Int))) ( k2 p q (decide (q = (1 : Int)))) ( ifB (decide (q = (10 : Int))) ( k2 p q (decide (q = (10 : Int)))) ( ifB (decide (q = (11 : Int))) ( k2 p q (decide (q = (11 : Int)))) ( k2 p q (decide (q = (12 : Int)))))))
def o138_2 (p : Tm) (q : Int) (s : Bool) : Option Bool :=
  ifB s ( (f145 p.i).bind fun x3 => ifB x3 ( ifB (decide (p.j = (0 : Int))) ( some (decide (p.n = (0 : Int)))) ( some false)) ( some false)) ( ifB (decide (q = (23 : Int))) ( (f145 p.i).bind fun x4 => ifB x4 ( (f145 p.j).bind fun x5 => some x5) ( some false)) ( ifB (decide (p.i = (0 : Int))) ( ifB (decide (p.j = (0 : Int))) ( some (decide (p.n = (0 : Int)))) ( some false)) ( some false)))
def c138_2 (p : Tm) (q : Int) (s : Bool) : Option Bool :=
  o138_2 p q s
def c138_1 (p : Tm) (q : Int) (r : Bool) : Option Bool :=
  o138_1 (c138_2) p q r
def f138 (a0 : Tm) : Option Bool := o138_0 (c138_1) a0
def F138 : Fn := ⟨138, (.n none [] 0 .z (.n none [] 0 (.n none [] 0 .z (.n none [] 0 (.n none [] 0 .z (.n none [] 0 .z (.n (some 1) [(1, .ps 0 .tm false), (4, .one .c), (25, .one .c)] 1 .z (.n none [] 0 .z (.n (some 2) [(1, .ps 0 .tm false), (4, .one .c), (46, .one .c)] 1 .z .z))))) .z)) .z)), [.tmp 2], [.st .tm], [.sc .bool], false, true, 87, 4, []⟩
def C138 : Cal := ⟨138, F138.ps, F138.rs, F138.fr, fun a => f138 a.1⟩
def cs138 : List Cal := [C145]
theorem w138 (x) : F138.W Tryz.f138 tabR cs138 0 x = o138_0 (c138_1) x.1 := by kernel_rfl
theorem ok138 : C138.Ok Tryz.prog := okOf F138 Tryz.func138 htabR (cs := cs138) (by kernel_rfl) (mC ok145 <| mN) (fun x => ⟨0, w138 x⟩)
-- tranship/transhipref04.node
def o125_0 (a0 : Tm) : Option Bool :=
  (f137 a0.kind a0.n).bind fun x1 => ifB (decide ((a0.kids.length : Int) = x1)) ( (f138 a0).bind fun x2 => some x2) ( some false)
def f125 (a0 : Tm) : Option Bool := o125_0 a0
def F125 : Fn := ⟨125, .z, [.tmp 2], [.st .tm], [.sc .bool], false, true, 16, 2, []⟩
def C125 : Cal := ⟨125, F125.ps, F125.rs, F125.fr, fun a => f125 a.1⟩
def cs125 : List Cal := [C137, C138]
theorem w125 (x) : F125.W Tryz.f125 tabR cs125 0 x = o125_0 x.1 := by kernel_rfl
theorem ok125 : C125.Ok Tryz.prog := okOf F125 Tryz.func125 htabR (cs := cs125) (by kernel_rfl) (mC ok137 <| mC ok138 <| mN) (fun x => ⟨0, w125 x⟩)
-- tranship/transhipref04.Plain
def o126_0 (s126 : Tm → Option Bool) (n : Nat) (k1 : Tm -> Option Bool) (a0 : Tm) : Option Bool :=
  ifB (!decide (a0.kind = (1 : Int))) ( ifB (!decide (a0.kind = (2 : Int))) ( ifB (decide (a0.kind < (13 : Int))) ( some false) ( ifB (decide ((23 : Int) < a0.kind)) ( some false) ( (f125 a0).bind fun x1 => ifB (!x1) ( some false) ( k1 a0)))) ( (f125 a0).bind fun x2 => ifB (!x2) ( some false) ( k1 a0))) ( (f125 a0).bind fun x3 => ifB (!x3) ( some false) ( k1 a0))
def o126_1 (s126 : Tm → Option Bool) (n : Nat) (k2 : Tm -> Int -> Option Bool) (p : Tm) : Option Bool :=
  k2 p 0
def o126_2 (s126 : Tm → Option Bool) (n : Nat) (k2 : Tm -> Int -> Option Bool) (p : Tm) (q : Int) : Option Bool :=
  ifB (decide (q < (p.kids.length : Int))) ( atI p.kids q fun x4 => (s126 x4).bind fun x5 => ifB (!x5) ( some false) ( ckI (q + (1 : Int)) <| k2 p (q + (1 : Int)))) ( some true)
def c126_1 (s126 : Tm → Option Bool) (n : Nat) (k2 : Tm -> Int -> Option Bool) (p : Tm) : Option Bool :=
  o126_1 s126 n k2 p
def l126_2 (s126 : Tm → Option Bool) (n : Nat) : Nat → Tm -> Int -> Option Bool
  | 0, _, _ => none
  | m + 1, p, q => o126_2 s126 n (l126_2 s126 n m) p q
def f126 : Nat → Tm → Option Bool
  | 0, _ => none
  | n + 1, a0 => o126_0 (f126 n) n (c126_1 (f126 n) n (l126_2 (f126 n) n n)) a0
def F126 : Fn := ⟨126, (.n none [] 0 .z (.n (some 1) [(1, .ps 0 .tm false)] 1 .z (.n none [] 0 (.n none [] 0 .z (.n none [] 0 (.n (some 2) [(1, .ps 0 .tm false), (3, .one .c)] 1 .z .z) .z)) .z))), [.tmp 2], [.st .tm], [.sc .bool], false, true, 41, 4, [2]⟩
def C126 (n : Nat) : Cal := ⟨126, F126.ps, F126.rs, F126.fr, fun a => f126 n a.1⟩
def cs126 (s126 : Tm → Option Bool) (n : Nat) : List Cal := [C125, ⟨126, [.st .tm], [.sc .bool], true, fun a => s126 a.1⟩]
def st126_2 (p : Tm) (q : Int) : SS := ⟨[(1, .v (.one (.ptr 0 0))), (3, .v (.one (.c (.int q) true)))], [(0, some (.bst .tm p false))], 1⟩
theorem p126_2 (s126 n R p q) : F126.Wl Tryz.f126 tabR (cs126 s126 n) R 2 (st126_2 p q) = o126_2 s126 n (fun p q => R 2 (st126_2 p q)) p q := by kernel_rfl
theorem m126_2 (s126 n) : ∀ m : Nat, (∀ p q, F126.Wm Tryz.f126 tabR (cs126 s126 n) m 2 (st126_2 p q) = l126_2 s126 n m p q) := by
  intro m
  induction m with
  | zero => exact (by intros; rfl)
  | succ m ih => intros; rw [Fn.Wm_succ, p126_2]; simp only [ih]; rfl
theorem p126_0 (s126 n R x) : F126.W0 Tryz.f126 tabR (cs126 s126 n) R x = o126_0 s126 n (c126_1 s126 n (fun p q => R 2 (st126_2 p q))) x.1 := by kernel_rfl
theorem w126 (s126 n x) : F126.W Tryz.f126 tabR (cs126 s126 n) n x = o126_0 s126 n (c126_1 s126 n (l126_2 s126 n n)) x.1 := by
  rw [Fn.W_eq, p126_0]; simp only [m126_2 s126 n n]; try rfl
theorem okr126 : ∀ n : Nat, (C126 n).Ok Tryz.prog
  | 0 => okZ (by kernel_rfl) (fun _ => rfl)
  | n + 1 => okOf F126 Tryz.func126 htabR (cs := cs126 (f126 n) n) (by kernel_rfl) (mC ok125 <| mC (okr126 n) <| mN) (fun x => ⟨n, w126 (f126 n) n x⟩)
theorem ok126 (n : Nat) : (C126 n).Ok Tryz.prog := (okr126 n)
-- tranship/transhipref04.Marked
def o106_0 (s106 : Tm → Option Bool) (n : Nat) (k1 : Tm -> Option Bool) (a0 : Tm) : Option Bool :=
  ifB (decide (a0.kind < (1 : Int))) ( some false) ( ifB (decide ((12 : Int) < a0.kind)) ( some false) ( (f125 a0).bind fun x1 => ifB (!x1) ( some false) ( k1 a0)))
def o106_1 (s106 : Tm → Option Bool) (n : Nat) (k2 : Tm -> Int -> Option Bool) (p : Tm) : Option Bool :=
  k2 p 0
def o106_2 (s106 : Tm → Option Bool) (n : Nat) (k3 : Tm -> Int -> Bool -> Option Bool) (p : Tm) (q : Int) : Option Bool :=
  ifB (decide (q < (p.kids.length : Int))) ( ifB (decide (p.kind = (12 : Int))) ( k3 p q (decide (q = (2 : Int)))) ( k3 p q false)) ( some true)
def o106_3 (s106 : Tm → Option Bool) (n : Nat) (k2 : Tm -> Int -> Option Bool) (p : Tm) (q : Int) (r : Bool) : Option Bool :=
  ifB r ( atI p.kids q fun x2 => (f126 n x2).bind fun x3 => ifB (!x3) ( some false) ( ckI (q + (1 : Int)) <| k2 p (q + (1 : Int)))) ( atI p.kids q fun x4 => (s106 x4).bind fun x5 => ifB (!x5) ( some false) ( ckI (q + (1 : Int)) <| k2 p (q + (1 : Int))))
def c106_1 (s106 : Tm → Option Bool) (n : Nat) (k2 : Tm -> Int -> Option Bool) (p : Tm) : Option Bool :=
  o106_1 s106 n k2 p
def c106_3 (s106 : Tm → Option Bool) (n : Nat) (k2 : Tm -> Int -> Option Bool) (p : Tm) (q : Int) (r : Bool) : Option Bool :=
  o106_3 s106 n k2 p q r
def l106_2 (s106 : Tm → Option Bool) (n : Nat) : Nat → Tm -> Int -> Option Bool
  | 0, _, _ => none
  | m + 1, p, q => o106_2 s106 n (c106_3 s106 n (l106_2 s106 n m)) p q
def f106 : Nat → Tm → Option Bool
  | 0, _ => none
  | n + 1, a0 => o106_0 (f106 n) n (c106_1 (f106 n) n (l106_2 (f106 n) n n)) a0
def F106 : Fn := ⟨106, (.n none [] 0 .z (.n (some 1) [(1, .ps 0 .tm false)] 1 .z (.n none [] 0 (.n none [] 0 .z (.n none [] 0 (.n (some 2) [(1, .ps 0 .tm false), (3, .one .c)] 1 (.n none [] 0 .z (.n none [] 0 (.n none [] 0 (.n (some 3) [(1, .ps 0 .tm false), (3, .one .c), (30, .one .c)] 1 .z .z) .z) .z)) .z) .z)) .z))), [.tmp 2], [.st .tm], [.sc .bool], false, true, 45, 5, [2]⟩
def C106 (n : Nat) : Cal := ⟨106, F106.ps, F106.rs, F106.fr, fun a => f106 n a.1⟩
def cs106 (s106 : Tm → Option Bool) (n : Nat) : List Cal := [⟨106, [.st .tm], [.sc .bool], true, fun a => s106 a.1⟩, C125, C126 n]
def st106_2 (p : Tm) (q : Int) : SS := ⟨[(1, .v (.one (.ptr 0 0))), (3, .v (.one (.c (.int q) true)))], [(0, some (.bst .tm p false))], 1⟩
theorem p106_2 (s106 n R p q) : F106.Wl Tryz.f106 tabR (cs106 s106 n) R 2 (st106_2 p q) = o106_2 s106 n (c106_3 s106 n (fun p q => R 2 (st106_2 p q))) p q := by kernel_rfl
theorem m106_2 (s106 n) : ∀ m : Nat, (∀ p q, F106.Wm Tryz.f106 tabR (cs106 s106 n) m 2 (st106_2 p q) = l106_2 s106 n m p q) := by
  intro m
  induction m with
  | zero => exact (by intros; rfl)
  | succ m ih => intros; rw [Fn.Wm_succ, p106_2]; simp only [ih]; rfl
theorem p106_0 (s106 n R x) : F106.W0 Tryz.f106 tabR (cs106 s106 n) R x = o106_0 s106 n (c106_1 s106 n (fun p q => R 2 (st106_2 p q))) x.1 := by kernel_rfl
theorem w106 (s106 n x) : F106.W Tryz.f106 tabR (cs106 s106 n) n x = o106_0 s106 n (c106_1 s106 n (l106_2 s106 n n)) x.1 := by
  rw [Fn.W_eq, p106_0]; simp only [m106_2 s106 n n]; try rfl
theorem okr106 : ∀ n : Nat, (C106 n).Ok Tryz.prog
  | 0 => okZ (by kernel_rfl) (fun _ => rfl)
  | n + 1 => okOf F106 Tryz.func106 htabR (cs := cs106 (f106 n) n) (by kernel_rfl) (mC (okr106 n) <| mC ok125 <| mC (ok126 n) <| mN) (fun x => ⟨n, w106 (f106 n) n x⟩)
theorem ok106 (n : Nat) : (C106 n).Ok Tryz.prog := (okr106 n)
-- tranship/transhipref04.Count
def o107_0 (s107 : Tm → Option Int) (n : Nat) (k1 : Tm -> Int -> Option Int) (a0 : Tm) : Option Int :=
  ifB (decide (a0.kind = (12 : Int))) ( k1 a0 1) ( k1 a0 0)
def o107_1 (s107 : Tm → Option Int) (n : Nat) (k2 : Tm -> Int -> Int -> Option Int) (p : Tm) (q : Int) : Option Int :=
  k2 p q 0
def o107_2 (s107 : Tm → Option Int) (n : Nat) (k2 : Tm -> Int -> Int -> Option Int) (p : Tm) (q r : Int) : Option Int :=
  ifB (decide (r < (p.kids.length : Int))) ( atI p.kids r fun x1 => (s107 x1).bind fun x2 => ckI (q + x2) <| ckI (r + (1 : Int)) <| k2 p (q + x2) (r + (1 : Int))) ( some q)
def c107_1 (s107 : Tm → Option Int) (n : Nat) (k2 : Tm -> Int -> Int -> Option Int) (p : Tm) (q : Int) : Option Int :=
  o107_1 s107 n k2 p q
def l107_2 (s107 : Tm → Option Int) (n : Nat) : Nat → Tm -> Int -> Int -> Option Int
  | 0, _, _, _ => none
  | m + 1, p, q, r => o107_2 s107 n (l107_2 s107 n m) p q r
def f107 : Nat → Tm → Option Int
  | 0, _ => none
  | n + 1, a0 => o107_0 (f107 n) n (c107_1 (f107 n) n (l107_2 (f107 n) n n)) a0
def F107 : Fn := ⟨107, (.n none [] 0 .z (.n none [] 0 .z (.n (some 1) [(1, .ps 0 .tm false), (3, .one .c)] 1 .z (.n none [] 0 (.n none [] 0 .z (.n none [] 0 (.n (some 2) [(1, .ps 0 .tm false), (3, .one .c), (4, .one .c)] 1 .z .z) .z)) .z)))), [.tmp 2], [.st .tm], [.sc .int], false, true, 24, 4, [2]⟩
def C107 (n : Nat) : Cal := ⟨107, F107.ps, F107.rs, F107.fr, fun a => f107 n a.1⟩
def cs107 (s107 : Tm → Option Int) (n : Nat) : List Cal := [⟨107, [.st .tm], [.sc .int], true, fun a => s107 a.1⟩]
def st107_2 (p : Tm) (q r : Int) : SS := ⟨[(1, .v (.one (.ptr 0 0))), (3, .v (.one (.c (.int q) true))), (4, .v (.one (.c (.int r) true)))], [(0, some (.bst .tm p false))], 1⟩
theorem p107_2 (s107 n R p q r) : F107.Wl Tryz.f107 tabR (cs107 s107 n) R 2 (st107_2 p q r) = o107_2 s107 n (fun p q r => R 2 (st107_2 p q r)) p q r := by kernel_rfl
theorem m107_2 (s107 n) : ∀ m : Nat, (∀ p q r, F107.Wm Tryz.f107 tabR (cs107 s107 n) m 2 (st107_2 p q r) = l107_2 s107 n m p q r) := by
  intro m
  induction m with
  | zero => exact (by intros; rfl)
  | succ m ih => intros; rw [Fn.Wm_succ, p107_2]; simp only [ih]; rfl
theorem p107_0 (s107 n R x) : F107.W0 Tryz.f107 tabR (cs107 s107 n) R x = o107_0 s107 n (c107_1 s107 n (fun p q r => R 2 (st107_2 p q r))) x.1 := by kernel_rfl
theorem w107 (s107 n x) : F107.W Tryz.f107 tabR (cs107 s107 n) n x = o107_0 s107 n (c107_1 s107 n (l107_2 s107 n n)) x.1 := by
  rw [Fn.W_eq, p107_0]; simp only [m107_2 s107 n n]; try rfl
theorem okr107 : ∀ n : Nat, (C107 n).Ok Tryz.prog
  | 0 => okZ (by kernel_rfl) (fun _ => rfl)
  | n + 1 => okOf F107 Tryz.func107 htabR (cs := cs107 (f107 n) n) (by kernel_rfl) (mC (okr107 n) <| mN) (fun x => ⟨n, w107 (f107 n) n x⟩)
theorem ok107 (n : Nat) : (C107 n).Ok Tryz.prog := (okr107 n)
-- tranship/transhipref04.Pure
def o69_0 (n : Nat) (a0 : Tm) : Option Bool :=
  (f106 n a0).bind fun x1 => ifB x1 ( (f107 n a0).bind fun x2 => some (decide (x2 = (0 : Int)))) ( some false)
def f69 (n : Nat) (a0 : Tm) : Option Bool := o69_0 n a0
def F69 : Fn := ⟨69, .z, [.tmp 2], [.st .tm], [.sc .bool], false, true, 10, 2, []⟩
def C69 (n : Nat) : Cal := ⟨69, F69.ps, F69.rs, F69.fr, fun a => f69 n a.1⟩
def cs69 (n : Nat) : List Cal := [C106 n, C107 n]
theorem w69 (n x) : F69.W Tryz.f69 tabR (cs69 n) 0 x = o69_0 n x.1 := by kernel_rfl
theorem ok69 (n : Nat) : (C69 n).Ok Tryz.prog := okOf F69 Tryz.func69 htabR (cs := cs69 n) (by kernel_rfl) (mC (ok106 n) <| mC (ok107 n) <| mN) (fun x => ⟨0, w69 n x⟩)
-- tranship/transhipref04.Right
def o108_0 (n : Nat) (a0 : Tm) : Option Bool :=
  (f106 n a0).bind fun x1 => ifB x1 ( some true) ( (f126 n a0).bind fun x2 => some x2)
def f108 (n : Nat) (a0 : Tm) : Option Bool := o108_0 n a0
def F108 : Fn := ⟨108, .z, [.tmp 2], [.st .tm], [.sc .bool], false, true, 9, 2, []⟩
def C108 (n : Nat) : Cal := ⟨108, F108.ps, F108.rs, F108.fr, fun a => f108 n a.1⟩
def cs108 (n : Nat) : List Cal := [C106 n, C126 n]
theorem w108 (n x) : F108.W Tryz.f108 tabR (cs108 n) 0 x = o108_0 n x.1 := by kernel_rfl
theorem ok108 (n : Nat) : (C108 n).Ok Tryz.prog := okOf F108 Tryz.func108 htabR (cs := cs108 n) (by kernel_rfl) (mC (ok106 n) <| mC (ok126 n) <| mN) (fun x => ⟨0, w108 n x⟩)
-- tranship/transhipref04.Binds
def o127_0 (k1 : Int -> Int -> Bool -> Option Int) (a0 a1 : Int) : Option Int :=
  ifB (decide (a0 = (3 : Int))) ( k1 a1 a0 (decide (a0 = (3 : Int)))) ( ifB (decide (a0 = (5 : Int))) ( k1 a1 a0 (decide (a0 = (5 : Int)))) ( ifB (decide (a0 = (6 : Int))) ( k1 a1 a0 (decide (a0 = (6 : Int)))) ( ifB (decide (a0 = (7 : Int))) ( k1 a1 a0 (decide (a0 = (7 : Int)))) ( ifB (decide (a0 = (8 : Int))) ( k1 a1 a0 (decide (a0 = (8 : Int)))) ( ifB (decide (a0 = (9 : Int))) ( k1 a1 a0 (decide (a0 = (9 : Int)))) ( ifB (decide (a0 = (13 : Int))) ( k1 a1 a0 (decide (a0 = (13 : Int)))) ( ifB (decide (a0 = (14 : Int))) ( k1 a1 a0 (decide (a0 = (14 : Int)))) ( ifB (decide (a0 = (16 : Int))) ( k1 a1 a0 (decide (a0 = (16 : Int)))) ( k1 a1 a0 (decide (a0 = (17 : Int))))))))))))
def o127_1 (p q : Int) (r : Bool) : Option Int :=
  ifB r ( ifB (decide (p = (1 : Int))) ( some 1) ( some 0)) ( ifB (decide (q = (4 : Int))) ( ifB (decide (p = (1 : Int))) ( some 1) ( ifB (decide (p = (2 : Int))) ( some 1) ( some 0))) ( ifB (decide (q = (22 : Int))) ( ifB (decide (p = (2 : Int))) ( some 2) ( some 0)) ( some 0)))
def c127_1 (p q : Int) (r : Bool) : Option Int :=
  o127_1 p q r
def f127 (a0 a1 : Int) : Option Int := o127_0 (c127_1) a0 a1
def F127 : Fn := ⟨127, (.n none [] 0 .z (.n none [] 0 (.n none [] 0 .z (.n none [] 0 (.n (some 1) [(1, .one .c), (5, .one .c), (6, .one .c)] 0 .z .z) .z)) .z)), [.tmp 4], [.sc .int, .sc .int], [.sc .int], false, true, 31, 3, []⟩
def C127 : Cal := ⟨127, F127.ps, F127.rs, F127.fr, fun a => f127 a.1 a.2.1⟩
def cs127 : List Cal := []
theorem w127 (x) : F127.W Tryz.f127 tabR cs127 0 x = o127_0 (c127_1) x.1 x.2.1 := by kernel_rfl
theorem ok127 : C127.Ok Tryz.prog := okOf F127 Tryz.func127 htabR (cs := cs127) (by kernel_rfl) (mN) (fun x => ⟨0, w127 x⟩)
-- tranship/transhipref04.free
def o109_0 (s109 : Tm → Option Int) (n : Nat) (k1 : Tm -> Int -> Int -> Option Int) (a0 : Tm) : Option Int :=
  ifB (decide (a0.kind = (2 : Int))) ( ckI (a0.i + (1 : Int)) <| some (a0.i + (1 : Int))) ( k1 a0 0 0)
def o109_1 (s109 : Tm → Option Int) (n : Nat) (k1 : Tm -> Int -> Int -> Option Int) (q : Tm) (r p : Int) : Option Int :=
  ifB (decide (p < (q.kids.length : Int))) ( atI q.kids p fun x1 => (s109 x1).bind fun x2 => (f127 q.kind p).bind fun x3 => ckI (x2 - x3) <| ckI (p + (1 : Int)) <| k1 q (max r (x2 - x3)) (p + (1 : Int))) ( some r)
def l109_1 (s109 : Tm → Option Int) (n : Nat) : Nat → Tm -> Int -> Int -> Option Int
  | 0, _, _, _ => none
  | m + 1, q, r, p => o109_1 s109 n (l109_1 s109 n m) q r p
def f109 : Nat → Tm → Option Int
  | 0, _ => none
  | n + 1, a0 => o109_0 (f109 n) n (l109_1 (f109 n) n n) a0
def F109 : Fn := ⟨109, (.n none [] 0 .z (.n none [] 0 .z (.n none [] 0 .z (.n none [] 0 (.n none [] 0 .z (.n none [] 0 (.n (some 1) [(1, .ps 0 .tm false), (3, .one .c), (4, .one .c)] 1 .z .z) .z)) .z)))), [.tmp 2], [.st .tm], [.sc .int], false, true, 32, 3, [1]⟩
def C109 (n : Nat) : Cal := ⟨109, F109.ps, F109.rs, F109.fr, fun a => f109 n a.1⟩
def cs109 (s109 : Tm → Option Int) (n : Nat) : List Cal := [⟨109, [.st .tm], [.sc .int], true, fun a => s109 a.1⟩, C127]
def st109_1 (q : Tm) (r p : Int) : SS := ⟨[(1, .v (.one (.ptr 0 0))), (3, .v (.one (.c (.int r) true))), (4, .v (.one (.c (.int p) true)))], [(0, some (.bst .tm q false))], 1⟩
theorem p109_1 (s109 n R q r p) : F109.Wl Tryz.f109 tabR (cs109 s109 n) R 1 (st109_1 q r p) = o109_1 s109 n (fun q r p => R 1 (st109_1 q r p)) q r p := by kernel_rfl
theorem m109_1 (s109 n) : ∀ m : Nat, (∀ q r p, F109.Wm Tryz.f109 tabR (cs109 s109 n) m 1 (st109_1 q r p) = l109_1 s109 n m q r p) := by
  intro m
  induction m with
  | zero => exact (by intros; rfl)
  | succ m ih => intros; rw [Fn.Wm_succ, p109_1]; simp only [ih]; rfl
theorem p109_0 (s109 n R x) : F109.W0 Tryz.f109 tabR (cs109 s109 n) R x = o109_0 s109 n (fun q r p => R 1 (st109_1 q r p)) x.1 := by kernel_rfl
theorem w109 (s109 n x) : F109.W Tryz.f109 tabR (cs109 s109 n) n x = o109_0 s109 n (l109_1 s109 n n) x.1 := by
  rw [Fn.W_eq, p109_0]; simp only [m109_1 s109 n n]; try rfl
theorem okr109 : ∀ n : Nat, (C109 n).Ok Tryz.prog
  | 0 => okZ (by kernel_rfl) (fun _ => rfl)
  | n + 1 => okOf F109 Tryz.func109 htabR (cs := cs109 (f109 n) n) (by kernel_rfl) (mC (okr109 n) <| mC ok127 <| mN) (fun x => ⟨n, w109 (f109 n) n x⟩)
theorem ok109 (n : Nat) : (C109 n).Ok Tryz.prog := (okr109 n)
-- tranship/transhipref04.Free
def o72_0 (n : Nat) (a0 : Tm) : Option Int :=
  (f108 n a0).bind fun x1 => ifB (!x1) ( some 0) ( (f109 n a0).bind fun x2 => some x2)
def f72 (n : Nat) (a0 : Tm) : Option Int := o72_0 n a0
def F72 : Fn := ⟨72, .z, [.tmp 2], [.st .tm], [.sc .int], false, true, 8, 2, []⟩
def C72 (n : Nat) : Cal := ⟨72, F72.ps, F72.rs, F72.fr, fun a => f72 n a.1⟩
def cs72 (n : Nat) : List Cal := [C108 n, C109 n]
theorem w72 (n x) : F72.W Tryz.f72 tabR (cs72 n) 0 x = o72_0 n x.1 := by kernel_rfl
theorem ok72 (n : Nat) : (C72 n).Ok Tryz.prog := okOf F72 Tryz.func72 htabR (cs := cs72 n) (by kernel_rfl) (mC (ok108 n) <| mC (ok109 n) <| mN) (fun x => ⟨0, w72 n x⟩)
-- tranship/transhipref04.Same
def o118_0 (s118 : Tm → Tm → Option Bool) (n : Nat) (k1 : Tm -> Tm -> Option Bool) (a0 a1 : Tm) : Option Bool :=
  ifB (!decide (a0.kind = a1.kind)) ( some false) ( ifB (!decide (a0.i = a1.i)) ( some false) ( ifB (!decide (a0.j = a1.j)) ( some false) ( ifB (!decide (a0.n = a1.n)) ( some false) ( ifB (!decide ((a0.kids.length : Int) = (a1.kids.length : Int))) ( some false) ( k1 a0 a1)))))
def o118_1 (s118 : Tm → Tm → Option Bool) (n : Nat) (k2 : Tm -> Tm -> Int -> Option Bool) (p q : Tm) : Option Bool :=
  k2 p q 0
def o118_2 (s118 : Tm → Tm → Option Bool) (n : Nat) (k2 : Tm -> Tm -> Int -> Option Bool) (p q : Tm) (r : Int) : Option Bool :=
  ifB (decide (r < (p.kids.length : Int))) ( atI p.kids r fun x1 => atI q.kids r fun x2 => (s118 x1 x2).bind fun x3 => ifB (!x3) ( some false) ( ckI (r + (1 : Int)) <| k2 p q (r + (1 : Int)))) ( some true)
def c118_1 (s118 : Tm → Tm → Option Bool) (n : Nat) (k2 : Tm -> Tm -> Int -> Option Bool) (p q : Tm) : Option Bool :=
  o118_1 s118 n k2 p q
def l118_2 (s118 : Tm → Tm → Option Bool) (n : Nat) : Nat → Tm -> Tm -> Int -> Option Bool
  | 0, _, _, _ => none
  | m + 1, p, q, r => o118_2 s118 n (l118_2 s118 n m) p q r
def f118 : Nat → Tm → Tm → Option Bool
  | 0, _, _ => none
  | n + 1, a0, a1 => o118_0 (f118 n) n (c118_1 (f118 n) n (l118_2 (f118 n) n n)) a0 a1
def F118 : Fn := ⟨118, (.n none [] 0 .z (.n (some 1) [(2, .ps 0 .tm false), (3, .ps 1 .tm false)] 2 .z (.n none [] 0 (.n none [] 0 .z (.n none [] 0 (.n (some 2) [(2, .ps 0 .tm false), (3, .ps 1 .tm false), (5, .one .c)] 2 .z .z) .z)) .z))), [.tmp 4], [.st .tm, .st .tm], [.sc .bool], false, true, 60, 4, [2]⟩
def C118 (n : Nat) : Cal := ⟨118, F118.ps, F118.rs, F118.fr, fun a => f118 n a.1 a.2.1⟩
def cs118 (s118 : Tm → Tm → Option Bool) (n : Nat) : List Cal := [⟨118, [.st .tm, .st .tm], [.sc .bool], true, fun a => s118 a.1 a.2.1⟩]
def st118_2 (p q : Tm) (r : Int) : SS := ⟨[(2, .v (.one (.ptr 0 0))), (3, .v (.one (.ptr 1 0))), (5, .v (.one (.c (.int r) true)))], [(0, some (.bst .tm p false)), (1, some (.bst .tm q false))], 2⟩
theorem p118_2 (s118 n R p q r) : F118.Wl Tryz.f118 tabR (cs118 s118 n) R 2 (st118_2 p q r) = o118_2 s118 n (fun p q r => R 2 (st118_2 p q r)) p q r := by kernel_rfl
theorem m118_2 (s118 n) : ∀ m : Nat, (∀ p q r, F118.Wm Tryz.f118 tabR (cs118 s118 n) m 2 (st118_2 p q r) = l118_2 s118 n m p q r) := by
  intro m
  induction m with
  | zero => exact (by intros; rfl)
  | succ m ih => intros; rw [Fn.Wm_succ, p118_2]; simp only [ih]; rfl
theorem p118_0 (s118 n R x) : F118.W0 Tryz.f118 tabR (cs118 s118 n) R x = o118_0 s118 n (c118_1 s118 n (fun p q r => R 2 (st118_2 p q r))) x.1 x.2.1 := by kernel_rfl
theorem w118 (s118 n x) : F118.W Tryz.f118 tabR (cs118 s118 n) n x = o118_0 s118 n (c118_1 s118 n (l118_2 s118 n n)) x.1 x.2.1 := by
  rw [Fn.W_eq, p118_0]; simp only [m118_2 s118 n n]; try rfl
theorem okr118 : ∀ n : Nat, (C118 n).Ok Tryz.prog
  | 0 => okZ (by kernel_rfl) (fun _ => rfl)
  | n + 1 => okOf F118 Tryz.func118 htabR (cs := cs118 (f118 n) n) (by kernel_rfl) (mC (okr118 n) <| mN) (fun x => ⟨n, w118 (f118 n) n x⟩)
theorem ok118 (n : Nat) : (C118 n).Ok Tryz.prog := (okr118 n)
-- tranship/transhipkeep.Same, tranship/transhipkeep.Terms
def o43_0 (s43 : Tm → Tm → Option Bool) (s81 : (List Tm) → (List Tm) → Option Bool) (n : Nat) (a0 a1 : Tm) : Option Bool :=
  ifB (decide (a0.kind = a1.kind)) ( ifB (decide (a0.i = a1.i)) ( ifB (decide (a0.j = a1.j)) ( ifB (decide (a0.n = a1.n)) ( (s81 a0.kids a1.kids).bind fun x1 => some x1) ( some false)) ( some false)) ( some false)) ( some false)
def o81_0 (s43 : Tm → Tm → Option Bool) (s81 : (List Tm) → (List Tm) → Option Bool) (n : Nat) (k1 : (List Tm) -> (List Tm) -> Int -> Option Bool) (a0 a1 : List Tm) : Option Bool :=
  ifB (!decide ((a0.length : Int) = (a1.length : Int))) ( some false) ( k1 a0 a1 0)
def o81_1 (s43 : Tm → Tm → Option Bool) (s81 : (List Tm) → (List Tm) → Option Bool) (n : Nat) (k1 : (List Tm) -> (List Tm) -> Int -> Option Bool) (q r : List Tm) (p : Int) : Option Bool :=
  ifB (decide (p < (q.length : Int))) ( atI q p fun x1 => atI r p fun x2 => (s43 x1 x2).bind fun x3 => ifB (!x3) ( some false) ( ckI (p + (1 : Int)) <| k1 q r (p + (1 : Int)))) ( some true)
def l81_1 (s43 : Tm → Tm → Option Bool) (s81 : (List Tm) → (List Tm) → Option Bool) (n : Nat) : Nat → (List Tm) -> (List Tm) -> Int -> Option Bool
  | 0, _, _, _ => none
  | m + 1, q, r, p => o81_1 s43 s81 n (l81_1 s43 s81 n m) q r p
mutual
def f43 : Nat → Tm → Tm → Option Bool
  | 0, _, _ => none
  | n + 1, a0, a1 => o43_0 (f43 n) (f81 n) n a0 a1
def f81 : Nat → (List Tm) → (List Tm) → Option Bool
  | 0, _, _ => none
  | n + 1, a0, a1 => o81_0 (f43 n) (f81 n) n (l81_1 (f43 n) (f81 n) n n) a0 a1
end
def F43 : Fn := ⟨43, .z, [.tmp 4], [.st .tm, .st .tm], [.sc .bool], false, true, 38, 2, []⟩
def C43 (n : Nat) : Cal := ⟨43, F43.ps, F43.rs, F43.fr, fun a => f43 n a.1 a.2.1⟩
def cs43 (s43 : Tm → Tm → Option Bool) (s81 : (List Tm) → (List Tm) → Option Bool) (n : Nat) : List Cal := [⟨81, [.sl .tm, .sl .tm], [.sc .bool], true, fun a => s81 a.1 a.2.1⟩]
theorem w43 (s43 s81 n x) : F43.W Tryz.f43 tabR (cs43 s43 s81 n) 0 x = o43_0 s43 s81 n x.1 x.2.1 := by kernel_rfl
def F81 : Fn := ⟨81, (.n none [] 0 .z (.n none [] 0 .z (.n none [] 0 (.n none [] 0 .z (.n none [] 0 (.n (some 1) [(0, .one (.d .tm false)), (1, .one (.d .tm false)), (5, .one .c)] 0 .z .z) .z)) .z))), [.tmp 4], [.sl .tm, .sl .tm], [.sc .bool], false, true, 27, 3, [1]⟩
def C81 (n : Nat) : Cal := ⟨81, F81.ps, F81.rs, F81.fr, fun a => f81 n a.1 a.2.1⟩
def cs81 (s43 : Tm → Tm → Option Bool) (s81 : (List Tm) → (List Tm) → Option Bool) (n : Nat) : List Cal := [⟨43, [.st .tm, .st .tm], [.sc .bool], true, fun a => s43 a.1 a.2.1⟩]
def st81_1 (q r : List Tm) (p : Int) : SS := ⟨[(0, .v (.one (.c (.sl .tm q) false))), (1, .v (.one (.c (.sl .tm r) false))), (5, .v (.one (.c (.int p) true)))], [], 0⟩
theorem p81_1 (s43 s81 n R q r p) : F81.Wl Tryz.f81 tabR (cs81 s43 s81 n) R 1 (st81_1 q r p) = o81_1 s43 s81 n (fun q r p => R 1 (st81_1 q r p)) q r p := by kernel_rfl
theorem m81_1 (s43 s81 n) : ∀ m : Nat, (∀ q r p, F81.Wm Tryz.f81 tabR (cs81 s43 s81 n) m 1 (st81_1 q r p) = l81_1 s43 s81 n m q r p) := by
  intro m
  induction m with
  | zero => exact (by intros; rfl)
  | succ m ih => intros; rw [Fn.Wm_succ, p81_1]; simp only [ih]; rfl
theorem p81_0 (s43 s81 n R x) : F81.W0 Tryz.f81 tabR (cs81 s43 s81 n) R x = o81_0 s43 s81 n (fun q r p => R 1 (st81_1 q r p)) x.1 x.2.1 := by kernel_rfl
theorem w81 (s43 s81 n x) : F81.W Tryz.f81 tabR (cs81 s43 s81 n) n x = o81_0 s43 s81 n (l81_1 s43 s81 n n) x.1 x.2.1 := by
  rw [Fn.W_eq, p81_0]; simp only [m81_1 s43 s81 n n]; try rfl
theorem okr43 : ∀ n : Nat, (C43 n).Ok Tryz.prog ∧ (C81 n).Ok Tryz.prog
  | 0 => ⟨okZ (by kernel_rfl) (fun _ => rfl), okZ (by kernel_rfl) (fun _ => rfl)⟩
  | n + 1 => ⟨okOf F43 Tryz.func43 htabR (cs := cs43 (f43 n) (f81 n) n) (by kernel_rfl) (mC (okr43 n).2 <| mN) (fun x => ⟨0, w43 (f43 n) (f81 n) n x⟩),
    okOf F81 Tryz.func81 htabR (cs := cs81 (f43 n) (f81 n) n) (by kernel_rfl) (mC (okr43 n).1 <| mN) (fun x => ⟨n, w81 (f43 n) (f81 n) n x⟩)⟩
theorem ok43 (n : Nat) : (C43 n).Ok Tryz.prog := (okr43 n).1
-- tranship/term.Size
def o83_0 (s83 : Tm → Option Int) (n : Nat) (k1 : Int -> (List Tm) -> Int -> Int -> Option Int) (a0 : Tm) : Option Int :=
  k1 1 a0.kids (a0.kids.length : Int) 0
def o83_1 (s83 : Tm → Option Int) (n : Nat) (k1 : Int -> (List Tm) -> Int -> Int -> Option Int) (q : Int) (r : List Tm) (s p : Int) : Option Int :=
  ifB (decide (p < s)) ( atI r p fun x1 => (s83 x1).bind fun x2 => ckI (q + x2) <| ckI (p + (1 : Int)) <| k1 (q + x2) r s (p + (1 : Int))) ( some q)
def l83_1 (s83 : Tm → Option Int) (n : Nat) : Nat → Int -> (List Tm) -> Int -> Int -> Option Int
  | 0, _, _, _, _ => none
  | m + 1, q, r, s, p => o83_1 s83 n (l83_1 s83 n m) q r s p
def f83 : Nat → Tm → Option Int
  | 0, _ => none
  | n + 1, a0 => o83_0 (f83 n) n (l83_1 (f83 n) n n) a0
def F83 : Fn := ⟨83, (.n none [] 0 .z (.n none [] 0 .z (.n none [] 0 (.n none [] 0 .z (.n none [] 0 (.n (some 1) [(3, .one .c), (7, .one (.d .tm false)), (8, .one .c), (9, .one .c)] 0 .z .z) .z)) .z))), [.tmp 2], [.st .tm], [.sc .int], false, true, 19, 3, [1]⟩
def C83 (n : Nat) : Cal := ⟨83, F83.ps, F83.rs, F83.fr, fun a => f83 n a.1⟩
def cs83 (s83 : Tm → Option Int) (n : Nat) : List Cal := [⟨83, [.st .tm], [.sc .int], true, fun a => s83 a.1⟩]
def st83_1 (q : Int) (r : List Tm) (s p : Int) : SS := ⟨[(3, .v (.one (.c (.int q) true))), (7, .v (.one (.c (.sl .tm r) false))), (8, .v (.one (.c (.int s) true))), (9, .v (.one (.c (.int p) true)))], [], 0⟩
theorem p83_1 (s83 n R q r s p) : F83.Wl Tryz.f83 tabR (cs83 s83 n) R 1 (st83_1 q r s p) = o83_1 s83 n (fun q r s p => R 1 (st83_1 q r s p)) q r s p := by kernel_rfl
theorem m83_1 (s83 n) : ∀ m : Nat, (∀ q r s p, F83.Wm Tryz.f83 tabR (cs83 s83 n) m 1 (st83_1 q r s p) = l83_1 s83 n m q r s p) := by
  intro m
  induction m with
  | zero => exact (by intros; rfl)
  | succ m ih => intros; rw [Fn.Wm_succ, p83_1]; simp only [ih]; rfl
theorem p83_0 (s83 n R x) : F83.W0 Tryz.f83 tabR (cs83 s83 n) R x = o83_0 s83 n (fun q r s p => R 1 (st83_1 q r s p)) x.1 := by kernel_rfl
theorem w83 (s83 n x) : F83.W Tryz.f83 tabR (cs83 s83 n) n x = o83_0 s83 n (l83_1 s83 n n) x.1 := by
  rw [Fn.W_eq, p83_0]; simp only [m83_1 s83 n n]; try rfl
theorem okr83 : ∀ n : Nat, (C83 n).Ok Tryz.prog
  | 0 => okZ (by kernel_rfl) (fun _ => rfl)
  | n + 1 => okOf F83 Tryz.func83 htabR (cs := cs83 (f83 n) n) (by kernel_rfl) (mC (okr83 n) <| mN) (fun x => ⟨n, w83 (f83 n) n x⟩)
theorem ok83 (n : Nat) : (C83 n).Ok Tryz.prog := (okr83 n)
-- tranship/transhipref04.Size
def o117_0 (s117 : Tm → Option Int) (n : Nat) (k1 : Tm -> Int -> Int -> Option Int) (a0 : Tm) : Option Int :=
  k1 a0 1 0
def o117_1 (s117 : Tm → Option Int) (n : Nat) (k1 : Tm -> Int -> Int -> Option Int) (q : Tm) (r p : Int) : Option Int :=
  ifB (decide (p < (q.kids.length : Int))) ( atI q.kids p fun x1 => (s117 x1).bind fun x2 => ckI (r + x2) <| ckI (p + (1 : Int)) <| k1 q (r + x2) (p + (1 : Int))) ( some r)
def l117_1 (s117 : Tm → Option Int) (n : Nat) : Nat → Tm -> Int -> Int -> Option Int
  | 0, _, _, _ => none
  | m + 1, q, r, p => o117_1 s117 n (l117_1 s117 n m) q r p
def f117 : Nat → Tm → Option Int
  | 0, _ => none
  | n + 1, a0 => o117_0 (f117 n) n (l117_1 (f117 n) n n) a0
def F117 : Fn := ⟨117, (.n none [] 0 .z (.n none [] 0 .z (.n none [] 0 (.n none [] 0 .z (.n none [] 0 (.n (some 1) [(1, .ps 0 .tm false), (3, .one .c), (4, .one .c)] 1 .z .z) .z)) .z))), [.tmp 2], [.st .tm], [.sc .int], false, true, 21, 3, [1]⟩
def C117 (n : Nat) : Cal := ⟨117, F117.ps, F117.rs, F117.fr, fun a => f117 n a.1⟩
def cs117 (s117 : Tm → Option Int) (n : Nat) : List Cal := [⟨117, [.st .tm], [.sc .int], true, fun a => s117 a.1⟩]
def st117_1 (q : Tm) (r p : Int) : SS := ⟨[(1, .v (.one (.ptr 0 0))), (3, .v (.one (.c (.int r) true))), (4, .v (.one (.c (.int p) true)))], [(0, some (.bst .tm q false))], 1⟩
theorem p117_1 (s117 n R q r p) : F117.Wl Tryz.f117 tabR (cs117 s117 n) R 1 (st117_1 q r p) = o117_1 s117 n (fun q r p => R 1 (st117_1 q r p)) q r p := by kernel_rfl
theorem m117_1 (s117 n) : ∀ m : Nat, (∀ q r p, F117.Wm Tryz.f117 tabR (cs117 s117 n) m 1 (st117_1 q r p) = l117_1 s117 n m q r p) := by
  intro m
  induction m with
  | zero => exact (by intros; rfl)
  | succ m ih => intros; rw [Fn.Wm_succ, p117_1]; simp only [ih]; rfl
theorem p117_0 (s117 n R x) : F117.W0 Tryz.f117 tabR (cs117 s117 n) R x = o117_0 s117 n (fun q r p => R 1 (st117_1 q r p)) x.1 := by kernel_rfl
theorem w117 (s117 n x) : F117.W Tryz.f117 tabR (cs117 s117 n) n x = o117_0 s117 n (l117_1 s117 n n) x.1 := by
  rw [Fn.W_eq, p117_0]; simp only [m117_1 s117 n n]; try rfl
theorem okr117 : ∀ n : Nat, (C117 n).Ok Tryz.prog
  | 0 => okZ (by kernel_rfl) (fun _ => rfl)
  | n + 1 => okOf F117 Tryz.func117 htabR (cs := cs117 (f117 n) n) (by kernel_rfl) (mC (okr117 n) <| mN) (fun x => ⟨n, w117 (f117 n) n x⟩)
theorem ok117 (n : Nat) : (C117 n).Ok Tryz.prog := (okr117 n)
end Go.Proofs.YtcaahmielncmpaaGreat
