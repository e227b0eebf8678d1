/-
  What the functions on derivations compute, as plain functions.
-/
import Derived.Test.YtcaahmielncmpaaGreatTypedB
set_option linter.unusedSimpArgs false
set_option linter.unusedVariables false
namespace Go.Proofs.YtcaahmielncmpaaGreat
open Go Go.RowKit
set_option maxRecDepth 100000
-- tranship/deriv.Kids
def o30_0 (k1 : Int -> Bool -> Option Int) (a0 : Int) : Option Int :=
  ifB (decide (a0 = (1 : Int))) ( k1 a0 (decide (a0 = (1 : Int)))) ( k1 a0 (decide (a0 = (2 : Int))))
def o30_1 (k2 : Int -> Bool -> Option Int) (p : Int) (q : Bool) : Option Int :=
  ifB q ( some 0) ( ifB (decide (p = (8 : Int))) ( k2 p (decide (p = (8 : Int)))) ( ifB (decide (p = (9 : Int))) ( k2 p (decide (p = (9 : Int)))) ( ifB (decide (p = (21 : Int))) ( k2 p (decide (p = (21 : Int)))) ( ifB (decide (p = (22 : Int))) ( k2 p (decide (p = (22 : Int)))) ( ifB (decide (p = (17 : Int))) ( k2 p (decide (p = (17 : Int)))) ( ifB (decide (p = (11 : Int))) ( k2 p (decide (p = (11 : Int)))) ( ifB (decide (p = (13 : Int))) ( k2 p (decide (p = (13 : Int)))) ( k2 p (decide (p = (14 : Int)))))))))))
def o30_2 (k3 : Int -> Bool -> Option Int) (p : Int) (r : Bool) : Option Int :=
  ifB r ( some 1) ( ifB (decide (p = (3 : Int))) ( k3 p (decide (p = (3 : Int)))) ( ifB (decide (p = (6 : Int))) ( k3 p (decide (p = (6 : Int)))) ( ifB (decide (p = (4 : Int))) ( k3 p (decide (p = (4 : Int)))) ( ifB (decide (p = (5 : Int))) ( k3 p (decide (p = (5 : Int)))) ( ifB (decide (p = (10 : Int))) ( k3 p (decide (p = (10 : Int)))) ( ifB (decide (p = (12 : Int))) ( k3 p (decide (p = (12 : Int)))) ( ifB (decide (p = (15 : Int))) ( k3 p (decide (p = (15 : Int)))) ( ifB (decide (p = (16 : Int))) ( k3 p (decide (p = (16 : Int)))) ( ifB (decide (p = (24 : Int))) ( k3 p (decide (p = (24 : Int)))) ( ifB (decide (p = (18 : Int))) ( k3 p (decide (p = (18 : Int)))) ( ifB (decide (p = (23 : Int))) ( k3 p (decide (p = (23 : Int)))) ( ifB (decide (p = (25 : Int))) ( k3 p (decide (p = (25 : Int)))) ( k3 p (decide (p = (26 : Int))))))))))))))))
def o30_3 (p : Int) (s : Bool) : Option Int :=
  ifB s ( some 2) ( ifB (decide (p = (7 : Int))) ( ifB (decide (p = (7 : Int))) ( some 3) ( ifB (decide (p = (28 : Int))) ( some 4) ( some (-1 : Int)))) ( ifB (decide (p = (19 : Int))) ( ifB (decide (p = (19 : Int))) ( some 3) ( ifB (decide (p = (28 : Int))) ( some 4) ( some (-1 : Int)))) ( ifB (decide (p = (20 : Int))) ( ifB (decide (p = (20 : Int))) ( some 3) ( ifB (decide (p = (28 : Int))) ( some 4) ( some (-1 : Int)))) ( ifB (decide (p = (27 : Int))) ( some 3) ( ifB (decide (p = (28 : Int))) ( some 4) ( some (-1 : Int)))))))
def c30_3 (p : Int) (s : Bool) : Option Int :=
  o30_3 p s
def c30_2 (p : Int) (r : Bool) : Option Int :=
  o30_2 (c30_3) p r
def c30_1 (p : Int) (q : Bool) : Option Int :=
  o30_1 (c30_2) p q
def f30 (a0 : Int) : Option Int := o30_0 (c30_1) a0
def F30 : Fn := ⟨30, (.n none [] 0 .z (.n none [] 0 (.n none [] 0 .z (.n none [] 0 (.n (some 1) [(3, .one .c), (4, .one .c)] 0 .z (.n none [] 0 .z (.n (some 2) [(3, .one .c), (7, .one .c)] 0 .z (.n none [] 0 .z (.n (some 3) [(3, .one .c), (16, .one .c)] 0 .z .z))))) .z)) .z)), [.tmp 2], [.sc .int], [.sc .int], false, true, 37, 5, []⟩
def C30 : Cal := ⟨30, F30.ps, F30.rs, F30.fr, fun a => f30 a.1⟩
def cs30 : List Cal := []
theorem w30 (x) : F30.W Tryz.f30 tabR cs30 0 x = o30_0 (c30_1) x.1 := by kernel_rfl
theorem ok30 : C30.Ok Tryz.prog := okOf F30 Tryz.func30 htabR (cs := cs30) (by kernel_rfl) (mN) (fun x => ⟨0, w30 x⟩)
-- tranship/deriv.Inner
def o31_0 (k1 : Int -> Int -> Bool -> Option Bool) (a0 a1 : Int) : Option Bool :=
  ifB (decide (a0 = (3 : Int))) ( k1 a1 a0 (decide (a0 = (3 : Int)))) ( ifB (decide (a0 = (6 : Int))) ( k1 a1 a0 (decide (a0 = (6 : Int)))) ( ifB (decide (a0 = (4 : Int))) ( k1 a1 a0 (decide (a0 = (4 : Int)))) ( ifB (decide (a0 = (7 : Int))) ( k1 a1 a0 (decide (a0 = (7 : Int)))) ( ifB (decide (a0 = (19 : Int))) ( k1 a1 a0 (decide (a0 = (19 : Int)))) ( ifB (decide (a0 = (20 : Int))) ( k1 a1 a0 (decide (a0 = (20 : Int)))) ( ifB (decide (a0 = (18 : Int))) ( k1 a1 a0 (decide (a0 = (18 : Int)))) ( ifB (decide (a0 = (23 : Int))) ( k1 a1 a0 (decide (a0 = (23 : Int)))) ( ifB (decide (a0 = (25 : Int))) ( k1 a1 a0 (decide (a0 = (25 : Int)))) ( ifB (decide (a0 = (26 : Int))) ( k1 a1 a0 (decide (a0 = (26 : Int)))) ( k1 a1 a0 (decide (a0 = (28 : Int)))))))))))))
def o31_1 (p q : Int) (r : Bool) : Option Bool :=
  ifB r ( some (decide (p = (1 : Int)))) ( ifB (decide (q = (27 : Int))) ( ifB (decide (p = (1 : Int))) ( some true) ( some (decide (p = (2 : Int))))) ( some false))
def c31_1 (p q : Int) (r : Bool) : Option Bool :=
  o31_1 p q r
def f31 (a0 a1 : Int) : Option Bool := o31_0 (c31_1) a0 a1
def F31 : Fn := ⟨31, (.n none [] 0 .z (.n none [] 0 (.n none [] 0 .z (.n none [] 0 (.n (some 1) [(1, .one .c), (5, .one .c), (6, .one .c)] 0 .z .z) .z)) .z)), [.tmp 4], [.sc .int, .sc .int], [.sc .bool], false, true, 28, 3, []⟩
def C31 : Cal := ⟨31, F31.ps, F31.rs, F31.fr, fun a => f31 a.1 a.2.1⟩
def cs31 : List Cal := []
theorem w31 (x) : F31.W Tryz.f31 tabR cs31 0 x = o31_0 (c31_1) x.1 x.2.1 := by kernel_rfl
theorem ok31 : C31.Ok Tryz.prog := okOf F31 Tryz.func31 htabR (cs := cs31) (by kernel_rfl) (mN) (fun x => ⟨0, w31 x⟩)
-- tranship/deriv.Equal
def o66_0 (a0 : Int) : Option Bool :=
  ifB (decide ((13 : Int) ≤ a0)) ( some (decide (a0 ≤ (28 : Int)))) ( some false)
def f66 (a0 : Int) : Option Bool := o66_0 a0
def F66 : Fn := ⟨66, .z, [.tmp 2], [.sc .int], [.sc .bool], false, true, 9, 2, []⟩
def C66 : Cal := ⟨66, F66.ps, F66.rs, F66.fr, fun a => f66 a.1⟩
def cs66 : List Cal := []
theorem w66 (x) : F66.W Tryz.f66 tabR cs66 0 x = o66_0 x.1 := by kernel_rfl
theorem ok66 : C66.Ok Tryz.prog := okOf F66 Tryz.func66 htabR (cs := cs66) (by kernel_rfl) (mN) (fun x => ⟨0, w66 x⟩)
-- tranship/transhipref11.Kids
def o37_0 (a0 : Int) : Option Int :=
  ifB (decide (a0 < (1 : Int))) ( some (-1 : Int)) ( ifB (decide (([(0 : Int), (0 : Int), (2 : Int), (2 : Int), (2 : Int), (2 : Int), (3 : Int), (1 : Int), (1 : Int), (2 : Int), (1 : Int), (2 : Int), (1 : Int), (1 : Int), (2 : Int), (2 : Int), (1 : Int), (2 : Int), (3 : Int), (3 : Int), (1 : Int), (1 : Int), (2 : Int), (2 : Int), (2 : Int), (2 : Int), (3 : Int), (4 : Int)].length : Int) < a0)) ( some (-1 : Int)) ( ckI (a0 - (1 : Int)) <| ckB (decide (0 ≤ (a0 - (1 : Int))) && decide ((a0 - (1 : Int)) < [(0 : Int), (0 : Int), (2 : Int), (2 : Int), (2 : Int), (2 : Int), (3 : Int), (1 : Int), (1 : Int), (2 : Int), (1 : Int), (2 : Int), (1 : Int), (1 : Int), (2 : Int), (2 : Int), (1 : Int), (2 : Int), (3 : Int), (3 : Int), (1 : Int), (1 : Int), (2 : Int), (2 : Int), (2 : Int), (2 : Int), (3 : Int), (4 : Int)].length)) <| atN [(0 : Int), (0 : Int), (2 : Int), (2 : Int), (2 : Int), (2 : Int), (3 : Int), (1 : Int), (1 : Int), (2 : Int), (1 : Int), (2 : Int), (1 : Int), (1 : Int), (2 : Int), (2 : Int), (1 : Int), (2 : Int), (3 : Int), (3 : Int), (1 : Int), (1 : Int), (2 : Int), (2 : Int), (2 : Int), (2 : Int), (3 : Int), (4 : Int)] (a0 - (1 : Int)).toNat fun x1 => some x1))
def f37 (a0 : Int) : Option Int := o37_0 a0
def F37 : Fn := ⟨37, .z, [.tmp 2], [.sc .int], [.sc .int], false, true, 18, 2, []⟩
def C37 : Cal := ⟨37, F37.ps, F37.rs, F37.fr, fun a => f37 a.1⟩
def cs37 : List Cal := []
theorem w37 (x) : F37.W Tryz.f37 tabR cs37 0 x = o37_0 x.1 := by kernel_rfl
theorem ok37 : C37.Ok Tryz.prog := okOf F37 Tryz.func37 htabR (cs := cs37) (by kernel_rfl) (mN) (fun x => ⟨0, w37 x⟩)
-- tranship/transhipref11.Inner
def o71_0 (k1 : Int -> Int -> Bool -> Option Bool) (a0 a1 : Int) : Option Bool :=
  ifB (decide (a0 = (3 : Int))) ( k1 a1 a0 (decide (a0 = (3 : Int)))) ( ifB (decide (a0 = (6 : Int))) ( k1 a1 a0 (decide (a0 = (6 : Int)))) ( ifB (decide (a0 = (4 : Int))) ( k1 a1 a0 (decide (a0 = (4 : Int)))) ( ifB (decide (a0 = (7 : Int))) ( k1 a1 a0 (decide (a0 = (7 : Int)))) ( ifB (decide (a0 = (19 : Int))) ( k1 a1 a0 (decide (a0 = (19 : Int)))) ( ifB (decide (a0 = (20 : Int))) ( k1 a1 a0 (decide (a0 = (20 : Int)))) ( ifB (decide (a0 = (18 : Int))) ( k1 a1 a0 (decide (a0 = (18 : Int)))) ( ifB (decide (a0 = (23 : Int))) ( k1 a1 a0 (decide (a0 = (23 : Int)))) ( ifB (decide (a0 = (25 : Int))) ( k1 a1 a0 (decide (a0 = (25 : Int)))) ( ifB (decide (a0 = (26 : Int))) ( k1 a1 a0 (decide (a0 = (26 : Int)))) ( k1 a1 a0 (decide (a0 = (28 : Int)))))))))))))
def o71_1 (p q : Int) (r : Bool) : Option Bool :=
  ifB r ( some (decide (p = (1 : Int)))) ( ifB (decide (q = (27 : Int))) ( ifB (decide (p = (1 : Int))) ( some true) ( some (decide (p = (2 : Int))))) ( some false))
def c71_1 (p q : Int) (r : Bool) : Option Bool :=
  o71_1 p q r
def f71 (a0 a1 : Int) : Option Bool := o71_0 (c71_1) a0 a1
def F71 : Fn := ⟨71, (.n none [] 0 .z (.n none [] 0 (.n none [] 0 .z (.n none [] 0 (.n (some 1) [(1, .one .c), (5, .one .c), (6, .one .c)] 0 .z .z) .z)) .z)), [.tmp 4], [.sc .int, .sc .int], [.sc .bool], false, true, 28, 3, []⟩
def C71 : Cal := ⟨71, F71.ps, F71.rs, F71.fr, fun a => f71 a.1 a.2.1⟩
def cs71 : List Cal := []
theorem w71 (x) : F71.W Tryz.f71 tabR cs71 0 x = o71_0 (c71_1) x.1 x.2.1 := by kernel_rfl
theorem ok71 : C71.Ok Tryz.prog := okOf F71 Tryz.func71 htabR (cs := cs71) (by kernel_rfl) (mN) (fun x => ⟨0, w71 x⟩)
-- tranship/transhipkeep.weighDeriv
def o51_0 (s51 : Dv → Int → Int → Option Int) (n : Nat) (k1 : Int -> Int -> Dv -> Int -> Int -> Option Int) (a0 : Dv) (a1 a2 : Int) : Option Int :=
  ifB (decide (a2 < (0 : Int))) ( ckI (a1 + (1 : Int)) <| some (a1 + (1 : Int))) ( k1 a1 a2 a0 1 0)
def o51_1 (s51 : Dv → Int → Int → Option Int) (n : Nat) (k2 : Int -> Int -> Dv -> Int -> Int -> Option Int) (q s : Int) (t : Dv) (p r : Int) : Option Int :=
  ifB (decide (r < (t.kids.length : Int))) ( ifB (decide (p ≤ q)) ( k2 q s t p r) ( some p)) ( some p)
def o51_2 (s51 : Dv → Int → Int → Option Int) (n : Nat) (k1 : Int -> Int -> Dv -> Int -> Int -> Option Int) (q s : Int) (t : Dv) (p r : Int) : Option Int :=
  atI t.kids r fun x1 => ckI (q - p) <| ckI (s - (1 : Int)) <| (s51 x1 (q - p) (s - (1 : Int))).bind fun x2 => ckI (p + x2) <| ckI (r + (1 : Int)) <| k1 q s t (p + x2) (r + (1 : Int))
def c51_2 (s51 : Dv → Int → Int → Option Int) (n : Nat) (k1 : Int -> Int -> Dv -> Int -> Int -> Option Int) (q s : Int) (t : Dv) (p r : Int) : Option Int :=
  o51_2 s51 n k1 q s t p r
def l51_1 (s51 : Dv → Int → Int → Option Int) (n : Nat) : Nat → Int -> Int -> Dv -> Int -> Int -> Option Int
  | 0, _, _, _, _, _ => none
  | m + 1, q, s, t, p, r => o51_1 s51 n (c51_2 s51 n (l51_1 s51 n m)) q s t p r
def f51 : Nat → Dv → Int → Int → Option Int
  | 0, _, _, _ => none
  | n + 1, a0, a1, a2 => o51_0 (f51 n) n (l51_1 (f51 n) n n) a0 a1 a2
def F51 : Fn := ⟨51, (.n none [] 0 .z (.n none [] 0 .z (.n none [] 0 .z (.n none [] 0 (.n none [] 0 .z (.n none [] 0 (.n (some 1) [(1, .one .c), (2, .one .c), (3, .ps 0 .dv false), (7, .one .c), (8, .one .c)] 1 (.n (some 2) [(1, .one .c), (2, .one .c), (3, .ps 0 .dv false), (7, .one .c), (8, .one .c)] 1 .z .z) .z) .z)) .z)))), [.tmp 6], [.st .dv, .sc .int, .sc .int], [.sc .int], false, true, 39, 4, [1]⟩
def C51 (n : Nat) : Cal := ⟨51, F51.ps, F51.rs, F51.fr, fun a => f51 n a.1 a.2.1 a.2.2.1⟩
def cs51 (s51 : Dv → Int → Int → Option Int) (n : Nat) : List Cal := [⟨51, [.st .dv, .sc .int, .sc .int], [.sc .int], true, fun a => s51 a.1 a.2.1 a.2.2.1⟩]
def st51_1 (q s : Int) (t : Dv) (p r : Int) : SS := ⟨[(1, .v (.one (.c (.int q) true))), (2, .v (.one (.c (.int s) true))), (3, .v (.one (.ptr 0 0))), (7, .v (.one (.c (.int p) true))), (8, .v (.one (.c (.int r) true)))], [(0, some (.bst .dv t false))], 1⟩
theorem p51_1 (s51 n R q s t p r) : F51.Wl Tryz.f51 tabR (cs51 s51 n) R 1 (st51_1 q s t p r) = o51_1 s51 n (c51_2 s51 n (fun q s t p r => R 1 (st51_1 q s t p r))) q s t p r := by kernel_rfl
theorem m51_1 (s51 n) : ∀ m : Nat, (∀ q s t p r, F51.Wm Tryz.f51 tabR (cs51 s51 n) m 1 (st51_1 q s t p r) = l51_1 s51 n m q s t p r) := by
  intro m
  induction m with
  | zero => exact (by intros; rfl)
  | succ m ih => intros; rw [Fn.Wm_succ, p51_1]; simp only [ih]; rfl
theorem p51_0 (s51 n R x) : F51.W0 Tryz.f51 tabR (cs51 s51 n) R x = o51_0 s51 n (fun q s t p r => R 1 (st51_1 q s t p r)) x.1 x.2.1 x.2.2.1 := by kernel_rfl
theorem w51 (s51 n x) : F51.W Tryz.f51 tabR (cs51 s51 n) n x = o51_0 s51 n (l51_1 s51 n n) x.1 x.2.1 x.2.2.1 := by
  rw [Fn.W_eq, p51_0]; simp only [m51_1 s51 n n]; try rfl
theorem okr51 : ∀ n : Nat, (C51 n).Ok Tryz.prog
  | 0 => okZ (by kernel_rfl) (fun _ => rfl)
  | n + 1 => okOf F51 Tryz.func51 htabR (cs := cs51 (f51 n) n) (by kernel_rfl) (mC (okr51 n) <| mN) (fun x => ⟨n, w51 (f51 n) n x⟩)
theorem ok51 (n : Nat) : (C51 n).Ok Tryz.prog := (okr51 n)
-- tranship/transhipkeep.GreatDeriv
-- tranship/deriv.Right
def o46_0 (s46 : Dv → Option Bool) (n : Nat) (k1 : Dv -> Option Bool) (a0 : Dv) : Option Bool :=
  (f30 a0.rule).bind fun x1 => ifB (!decide (x1 = (a0.kids.length : Int))) ( some false) ( ifB (decide (a0.i < (0 : Int))) ( some false) ( ifB (decide ((1000000 : Int) < a0.i)) ( some false) ( ifB (!decide (a0.i = (0 : Int))) ( ifB (!decide (a0.rule = (1 : Int))) ( ifB (!decide (a0.rule = (2 : Int))) ( some false) ( k1 a0)) ( k1 a0)) ( k1 a0))))
def o46_1 (s46 : Dv → Option Bool) (n : Nat) (k2 : (List Dv) -> Int -> Int -> Option Bool) (s : Dv) : Option Bool :=
  k2 s.kids (s.kids.length : Int) 0
def o46_2 (s46 : Dv → Option Bool) (n : Nat) (k2 : (List Dv) -> Int -> Int -> Option Bool) (q : List Dv) (r p : Int) : Option Bool :=
  ifB (decide (p < r)) ( atI q p fun x2 => (s46 x2).bind fun x3 => ifB (!x3) ( some false) ( ckI (p + (1 : Int)) <| k2 q r (p + (1 : Int)))) ( some true)
def c46_1 (s46 : Dv → Option Bool) (n : Nat) (k2 : (List Dv) -> Int -> Int -> Option Bool) (s : Dv) : Option Bool :=
  o46_1 s46 n k2 s
def l46_2 (s46 : Dv → Option Bool) (n : Nat) : Nat → (List Dv) -> Int -> Int -> Option Bool
  | 0, _, _, _ => none
  | m + 1, q, r, p => o46_2 s46 n (l46_2 s46 n m) q r p
def f46 : Nat → Dv → Option Bool
  | 0, _ => none
  | n + 1, a0 => o46_0 (f46 n) n (c46_1 (f46 n) n (l46_2 (f46 n) n n)) a0
def F46 : Fn := ⟨46, (.n none [] 0 .z (.n (some 1) [(1, .ps 0 .dv false)] 1 .z (.n none [] 0 (.n none [] 0 .z (.n none [] 0 (.n (some 2) [(38, .one (.d .dv false)), (39, .one .c), (40, .one .c)] 0 .z .z) .z)) .z))), [.tmp 2], [.st .dv], [.sc .bool], false, true, 48, 4, [2]⟩
def C46 (n : Nat) : Cal := ⟨46, F46.ps, F46.rs, F46.fr, fun a => f46 n a.1⟩
def cs46 (s46 : Dv → Option Bool) (n : Nat) : List Cal := [C30, ⟨46, [.st .dv], [.sc .bool], true, fun a => s46 a.1⟩]
def st46_2 (q : List Dv) (r p : Int) : SS := ⟨[(38, .v (.one (.c (.sl .dv q) false))), (39, .v (.one (.c (.int r) true))), (40, .v (.one (.c (.int p) true)))], [], 0⟩
theorem p46_2 (s46 n R q r p) : F46.Wl Tryz.f46 tabR (cs46 s46 n) R 2 (st46_2 q r p) = o46_2 s46 n (fun q r p => R 2 (st46_2 q r p)) q r p := by kernel_rfl
theorem m46_2 (s46 n) : ∀ m : Nat, (∀ q r p, F46.Wm Tryz.f46 tabR (cs46 s46 n) m 2 (st46_2 q r p) = l46_2 s46 n m q r p) := by
  intro m
  induction m with
  | zero => exact (by intros; rfl)
  | succ m ih => intros; rw [Fn.Wm_succ, p46_2]; simp only [ih]; rfl
theorem p46_0 (s46 n R x) : F46.W0 Tryz.f46 tabR (cs46 s46 n) R x = o46_0 s46 n (c46_1 s46 n (fun q r p => R 2 (st46_2 q r p))) x.1 := by kernel_rfl
theorem w46 (s46 n x) : F46.W Tryz.f46 tabR (cs46 s46 n) n x = o46_0 s46 n (c46_1 s46 n (l46_2 s46 n n)) x.1 := by
  rw [Fn.W_eq, p46_0]; simp only [m46_2 s46 n n]; try rfl
theorem okr46 : ∀ n : Nat, (C46 n).Ok Tryz.prog
  | 0 => okZ (by kernel_rfl) (fun _ => rfl)
  | n + 1 => okOf F46 Tryz.func46 htabR (cs := cs46 (f46 n) n) (by kernel_rfl) (mC ok30 <| mC (okr46 n) <| mN) (fun x => ⟨n, w46 (f46 n) n x⟩)
theorem ok46 (n : Nat) : (C46 n).Ok Tryz.prog := (okr46 n)
-- tranship/transhipref11.numbered
def o85_0 (a0 : Int) : Option Bool :=
  ifB (decide (a0 = (1 : Int))) ( some true) ( some (decide (a0 = (2 : Int))))
def f85 (a0 : Int) : Option Bool := o85_0 a0
def F85 : Fn := ⟨85, .z, [.tmp 2], [.sc .int], [.sc .bool], false, true, 9, 2, []⟩
def C85 : Cal := ⟨85, F85.ps, F85.rs, F85.fr, fun a => f85 a.1⟩
def cs85 : List Cal := []
theorem w85 (x) : F85.W Tryz.f85 tabR cs85 0 x = o85_0 x.1 := by kernel_rfl
theorem ok85 : C85.Ok Tryz.prog := okOf F85 Tryz.func85 htabR (cs := cs85) (by kernel_rfl) (mN) (fun x => ⟨0, w85 x⟩)
-- tranship/transhipref11.Right
def o49_0 (s49 : Dv → Option Bool) (n : Nat) (k1 : Dv -> Option Bool) (a0 : Dv) : Option Bool :=
  (f37 a0.rule).bind fun x1 => ifB (decide (x1 < (0 : Int))) ( some false) ( (f37 a0.rule).bind fun x2 => ifB (!decide ((a0.kids.length : Int) = x2)) ( some false) ( ifB (decide (a0.i < (0 : Int))) ( some false) ( ifB (decide ((1000000 : Int) < a0.i)) ( some false) ( ifB (decide ((0 : Int) < a0.i)) ( (f85 a0.rule).bind fun x3 => ifB (!x3) ( some false) ( k1 a0)) ( k1 a0)))))
def o49_1 (s49 : Dv → Option Bool) (n : Nat) (k2 : Dv -> Int -> Option Bool) (p : Dv) : Option Bool :=
  k2 p 0
def o49_2 (s49 : Dv → Option Bool) (n : Nat) (k2 : Dv -> Int -> Option Bool) (p : Dv) (q : Int) : Option Bool :=
  ifB (decide (q < (p.kids.length : Int))) ( atI p.kids q fun x4 => (s49 x4).bind fun x5 => ifB (!x5) ( some false) ( ckI (q + (1 : Int)) <| k2 p (q + (1 : Int)))) ( some true)
def c49_1 (s49 : Dv → Option Bool) (n : Nat) (k2 : Dv -> Int -> Option Bool) (p : Dv) : Option Bool :=
  o49_1 s49 n k2 p
def l49_2 (s49 : Dv → Option Bool) (n : Nat) : Nat → Dv -> Int -> Option Bool
  | 0, _, _ => none
  | m + 1, p, q => o49_2 s49 n (l49_2 s49 n m) p q
def f49 : Nat → Dv → Option Bool
  | 0, _ => none
  | n + 1, a0 => o49_0 (f49 n) n (c49_1 (f49 n) n (l49_2 (f49 n) n n)) a0
def F49 : Fn := ⟨49, (.n none [] 0 .z (.n (some 1) [(1, .ps 0 .dv false)] 1 .z (.n none [] 0 (.n none [] 0 .z (.n none [] 0 (.n (some 2) [(1, .ps 0 .dv false), (3, .one .c)] 1 .z .z) .z)) .z))), [.tmp 2], [.st .dv], [.sc .bool], false, true, 52, 4, [2]⟩
def C49 (n : Nat) : Cal := ⟨49, F49.ps, F49.rs, F49.fr, fun a => f49 n a.1⟩
def cs49 (s49 : Dv → Option Bool) (n : Nat) : List Cal := [C37, ⟨49, [.st .dv], [.sc .bool], true, fun a => s49 a.1⟩, C85]
def st49_2 (p : Dv) (q : Int) : SS := ⟨[(1, .v (.one (.ptr 0 0))), (3, .v (.one (.c (.int q) true)))], [(0, some (.bst .dv p false))], 1⟩
theorem p49_2 (s49 n R p q) : F49.Wl Tryz.f49 tabR (cs49 s49 n) R 2 (st49_2 p q) = o49_2 s49 n (fun p q => R 2 (st49_2 p q)) p q := by kernel_rfl
theorem m49_2 (s49 n) : ∀ m : Nat, (∀ p q, F49.Wm Tryz.f49 tabR (cs49 s49 n) m 2 (st49_2 p q) = l49_2 s49 n m p q) := by
  intro m
  induction m with
  | zero => exact (by intros; rfl)
  | succ m ih => intros; rw [Fn.Wm_succ, p49_2]; simp only [ih]; rfl
theorem p49_0 (s49 n R x) : F49.W0 Tryz.f49 tabR (cs49 s49 n) R x = o49_0 s49 n (c49_1 s49 n (fun p q => R 2 (st49_2 p q))) x.1 := by kernel_rfl
theorem w49 (s49 n x) : F49.W Tryz.f49 tabR (cs49 s49 n) n x = o49_0 s49 n (c49_1 s49 n (l49_2 s49 n n)) x.1 := by
  rw [Fn.W_eq, p49_0]; simp only [m49_2 s49 n n]; try rfl
theorem okr49 : ∀ n : Nat, (C49 n).Ok Tryz.prog
  | 0 => okZ (by kernel_rfl) (fun _ => rfl)
  | n + 1 => okOf F49 Tryz.func49 htabR (cs := cs49 (f49 n) n) (by kernel_rfl) (mC ok37 <| mC (okr49 n) <| mC ok85 <| mN) (fun x => ⟨n, w49 (f49 n) n x⟩)
theorem ok49 (n : Nat) : (C49 n).Ok Tryz.prog := (okr49 n)
-- tranship/transhipkeep.Ints
def o19_0 (n : Nat) (k1 : (List Int) -> (List Int) -> Int -> Option Bool) (a0 a1 : List Int) : Option Bool :=
  ifB (!decide ((a0.length : Int) = (a1.length : Int))) ( some false) ( k1 a0 a1 0)
def o19_1 (n : Nat) (k1 : (List Int) -> (List Int) -> Int -> Option Bool) (q r : List Int) (p : Int) : Option Bool :=
  ifB (decide (p < (q.length : Int))) ( atI q p fun x1 => atI r p fun x2 => ifB (!decide (x1 = x2)) ( some false) ( ckI (p + (1 : Int)) <| k1 q r (p + (1 : Int)))) ( some true)
def l19_1 (n : Nat) : Nat → (List Int) -> (List Int) -> Int -> Option Bool
  | 0, _, _, _ => none
  | m + 1, q, r, p => o19_1 n (l19_1 n m) q r p
def f19 (n : Nat) (a0 a1 : List Int) : Option Bool := o19_0 n (l19_1 n n) a0 a1
def F19 : Fn := ⟨19, (.n none [] 0 .z (.n none [] 0 .z (.n none [] 0 (.n none [] 0 .z (.n none [] 0 (.n (some 1) [(0, .one (.d .int false)), (1, .one (.d .int false)), (5, .one .c)] 0 .z .z) .z)) .z))), [.tmp 4], [.sl .int, .sl .int], [.sc .bool], false, true, 26, 3, [1]⟩
def C19 (n : Nat) : Cal := ⟨19, F19.ps, F19.rs, F19.fr, fun a => f19 n a.1 a.2.1⟩
def cs19 (n : Nat) : List Cal := []
def st19_1 (q r : List Int) (p : Int) : SS := ⟨[(0, .v (.one (.c (.sl .int q) false))), (1, .v (.one (.c (.sl .int r) false))), (5, .v (.one (.c (.int p) true)))], [], 0⟩
theorem p19_1 (n R q r p) : F19.Wl Tryz.f19 tabR (cs19 n) R 1 (st19_1 q r p) = o19_1 n (fun q r p => R 1 (st19_1 q r p)) q r p := by kernel_rfl
theorem m19_1 (n) : ∀ m : Nat, (∀ q r p, F19.Wm Tryz.f19 tabR (cs19 n) m 1 (st19_1 q r p) = l19_1 n m q r p) := by
  intro m
  induction m with
  | zero => exact (by intros; rfl)
  | succ m ih => intros; rw [Fn.Wm_succ, p19_1]; simp only [ih]; rfl
theorem p19_0 (n R x) : F19.W0 Tryz.f19 tabR (cs19 n) R x = o19_0 n (fun q r p => R 1 (st19_1 q r p)) x.1 x.2.1 := by kernel_rfl
theorem w19 (n x) : F19.W Tryz.f19 tabR (cs19 n) n x = o19_0 n (l19_1 n n) x.1 x.2.1 := by
  rw [Fn.W_eq, p19_0]; simp only [m19_1 n n]; try rfl
theorem ok19 (n : Nat) : (C19 n).Ok Tryz.prog := okOf F19 Tryz.func19 htabR (cs := cs19 n) (by kernel_rfl) (mN) (fun x => ⟨n, w19 n x⟩)
-- tranship/transhipkeep.GreatFile
def o21_0 (n : Nat) (k1 : Int -> Fl -> Int -> Int -> Option Bool) (a0 : Fl) (a1 : Int) : Option Bool :=
  ifB (decide (a1 < (a0.ctx.length : Int))) ( some true) ( (f51 n a0.d a1 200).bind fun x1 => k1 a1 a0 x1 0)
def o21_1 (n : Nat) (k2 : Int -> Fl -> Int -> Int -> Option Bool) (q : Int) (s : Fl) (p r : Int) : Option Bool :=
  ifB (decide (r < (s.ctx.length : Int))) ( ifB (decide (p ≤ q)) ( k2 q s p r) ( some (decide (q < p)))) ( some (decide (q < p)))
def o21_2 (n : Nat) (k1 : Int -> Fl -> Int -> Int -> Option Bool) (q : Int) (s : Fl) (p r : Int) : Option Bool :=
  atI s.ctx r fun x2 => ckI (q - p) <| (f51 n x2 (q - p) 200).bind fun x3 => ckI (p + x3) <| ckI (r + (1 : Int)) <| k1 q s (p + x3) (r + (1 : Int))
def c21_2 (n : Nat) (k1 : Int -> Fl -> Int -> Int -> Option Bool) (q : Int) (s : Fl) (p r : Int) : Option Bool :=
  o21_2 n k1 q s p r
def l21_1 (n : Nat) : Nat → Int -> Fl -> Int -> Int -> Option Bool
  | 0, _, _, _, _ => none
  | m + 1, q, s, p, r => o21_1 n (c21_2 n (l21_1 n m)) q s p r
def f21 (n : Nat) (a0 : Fl) (a1 : Int) : Option Bool := o21_0 n (l21_1 n n) a0 a1
def F21 : Fn := ⟨21, (.n none [] 0 .z (.n none [] 0 .z (.n none [] 0 .z (.n none [] 0 (.n none [] 0 .z (.n none [] 0 (.n (some 1) [(1, .one .c), (2, .ps 0 .fl false), (5, .one .c), (6, .one .c)] 1 (.n (some 2) [(1, .one .c), (2, .ps 0 .fl false), (5, .one .c), (6, .one .c)] 1 .z .z) .z) .z)) .z)))), [.tmp 4], [.st .fl, .sc .int], [.sc .bool], false, true, 42, 4, [1]⟩
def C21 (n : Nat) : Cal := ⟨21, F21.ps, F21.rs, F21.fr, fun a => f21 n a.1 a.2.1⟩
def cs21 (n : Nat) : List Cal := [C51 n]
def st21_1 (q : Int) (s : Fl) (p r : Int) : SS := ⟨[(1, .v (.one (.c (.int q) true))), (2, .v (.one (.ptr 0 0))), (5, .v (.one (.c (.int p) true))), (6, .v (.one (.c (.int r) true)))], [(0, some (.bst .fl s false))], 1⟩
theorem p21_1 (n R q s p r) : F21.Wl Tryz.f21 tabR (cs21 n) R 1 (st21_1 q s p r) = o21_1 n (c21_2 n (fun q s p r => R 1 (st21_1 q s p r))) q s p r := by kernel_rfl
theorem m21_1 (n) : ∀ m : Nat, (∀ q s p r, F21.Wm Tryz.f21 tabR (cs21 n) m 1 (st21_1 q s p r) = l21_1 n m q s p r) := by
  intro m
  induction m with
  | zero => exact (by intros; rfl)
  | succ m ih => intros; rw [Fn.Wm_succ, p21_1]; simp only [ih]; rfl
theorem p21_0 (n R x) : F21.W0 Tryz.f21 tabR (cs21 n) R x = o21_0 n (fun q s p r => R 1 (st21_1 q s p r)) x.1 x.2.1 := by kernel_rfl
theorem w21 (n x) : F21.W Tryz.f21 tabR (cs21 n) n x = o21_0 n (l21_1 n n) x.1 x.2.1 := by
  rw [Fn.W_eq, p21_0]; simp only [m21_1 n n]; try rfl
theorem ok21 (n : Nat) : (C21 n).Ok Tryz.prog := okOf F21 Tryz.func21 htabR (cs := cs21 n) (by kernel_rfl) (mC (ok51 n) <| mN) (fun x => ⟨n, w21 n x⟩)
-- tranship/transhipref11.Rights
def o52_0 (n : Nat) (k1 : (List Dv) -> Int -> Option Bool) (a0 : List Dv) : Option Bool :=
  k1 a0 0
def o52_1 (n : Nat) (k1 : (List Dv) -> Int -> Option Bool) (q : List Dv) (p : Int) : Option Bool :=
  ifB (decide (p < (q.length : Int))) ( atI q p fun x1 => (f49 n x1).bind fun x2 => ifB (!x2) ( some false) ( ckI (p + (1 : Int)) <| k1 q (p + (1 : Int)))) ( some true)
def l52_1 (n : Nat) : Nat → (List Dv) -> Int -> Option Bool
  | 0, _, _ => none
  | m + 1, q, p => o52_1 n (l52_1 n m) q p
def f52 (n : Nat) (a0 : List Dv) : Option Bool := o52_0 n (l52_1 n n) a0
def F52 : Fn := ⟨52, (.n none [] 0 .z (.n none [] 0 (.n none [] 0 .z (.n none [] 0 (.n (some 1) [(0, .one (.d .dv false)), (3, .one .c)] 0 .z .z) .z)) .z)), [.tmp 2], [.sl .dv], [.sc .bool], false, true, 16, 3, [1]⟩
def C52 (n : Nat) : Cal := ⟨52, F52.ps, F52.rs, F52.fr, fun a => f52 n a.1⟩
def cs52 (n : Nat) : List Cal := [C49 n]
def st52_1 (q : List Dv) (p : Int) : SS := ⟨[(0, .v (.one (.c (.sl .dv q) false))), (3, .v (.one (.c (.int p) true)))], [], 0⟩
theorem p52_1 (n R q p) : F52.Wl Tryz.f52 tabR (cs52 n) R 1 (st52_1 q p) = o52_1 n (fun q p => R 1 (st52_1 q p)) q p := by kernel_rfl
theorem m52_1 (n) : ∀ m : Nat, (∀ q p, F52.Wm Tryz.f52 tabR (cs52 n) m 1 (st52_1 q p) = l52_1 n m q p) := by
  intro m
  induction m with
  | zero => exact (by intros; rfl)
  | succ m ih => intros; rw [Fn.Wm_succ, p52_1]; simp only [ih]; rfl
theorem p52_0 (n R x) : F52.W0 Tryz.f52 tabR (cs52 n) R x = o52_0 n (fun q p => R 1 (st52_1 q p)) x.1 := by kernel_rfl
theorem w52 (n x) : F52.W Tryz.f52 tabR (cs52 n) n x = o52_0 n (l52_1 n n) x.1 := by
  rw [Fn.W_eq, p52_0]; simp only [m52_1 n n]; try rfl
theorem ok52 (n : Nat) : (C52 n).Ok Tryz.prog := okOf F52 Tryz.func52 htabR (cs := cs52 n) (by kernel_rfl) (mC (ok49 n) <| mN) (fun x => ⟨n, w52 n x⟩)
end Go.Proofs.YtcaahmielncmpaaGreat
