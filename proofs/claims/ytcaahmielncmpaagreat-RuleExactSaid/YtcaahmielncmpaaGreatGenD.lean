/-
  What the functions on derivations compute, as plain functions.
-/
import Derived.Test.YtcaahmielncmpaaGreatTypedB
set_option linter.unusedSimpArgs false
set_option linter.unusedVariables false
namespace Go.Proofs.YtcaahmielncmpaaGreat
open Go Go.RowKit
set_option maxRecDepth 100000
-- tranship/deriv.Kids
def o30_0 (k1 : Int -> Bool -> Option Int) (a0 : Int) : Option Int :=
  ifB (decide (a0 = (1 : Int))) ( k1 a0 (decide (a0 = (1 : Int)))) ( k1 a0 (decide (a0 = (2 : Int))))
def o30_1 (k2 : Int -> Bool -> Option Int) (p : Int) (q : Bool) : Option Int :=
  ifB q ( some 0) ( ifB (decide (p = (8 : Int))) ( k2 p (decide (p = (8 : Int)))) ( ifB (decide (p = (9 : Int))) ( k2 p (decide (p = (9 : Int)))) ( ifB (decide (p = (21 : Int))) ( k2 p (decide (p = (21 : Int)))) ( ifB (decide (p = (22 : Int))) ( k2 p (decide (p = (22 : Int)))) ( ifB (decide (p = (17 : Int))) ( k2 p (decide (p = (17 : Int)))) ( ifB (decide (p = (11 : Int))) ( k2 p (decide (p = (11 : Int)))) ( ifB (decide (p = (13 : Int))) ( k2 p (decide (p = (13 : Int)))) ( k2 p (decide (p = (14 : Int)))))))))))
def o30_2 (k3 : Int -> Bool -> Option Int) (p : Int) (r : Bool) : Option Int :=
  ifB r ( some 1) ( ifB (decide (p = (3 : Int))) ( k3 p (decide (p = (3 : Int)))) ( ifB (decide (p = (6 : Int))) ( k3 p (decide (p = (6 : Int)))) ( ifB (decide (p = (4 : Int))) ( k3 p (decide (p = (4 : Int)))) ( ifB (decide (p = (5 : Int))) ( k3 p (decide (p = (5 : Int)))) ( ifB (decide (p = (10 : Int))) ( k3 p (decide (p = (10 : Int)))) ( ifB (decide (p = (12 : Int))) ( k3 p (decide (p = (12 : Int)))) ( ifB (decide (p = (15 : Int))) ( k3 p (decide (p = (15 : Int)))) ( ifB (decide (p = (16 : Int))) ( k3 p (decide (p = (16 : Int)))) ( ifB (decide (p = (24 : Int))) ( k3 p (decide (p = (24 : Int)))) ( ifB (decide (p = (18 : Int))) ( k3 p (decide (p = (18 : Int)))) ( ifB (decide (p = (23 : Int))) ( k3 p (decide (p = (23 : Int)))) ( ifB (decide (p = (25 : Int))) ( k3 p (decide (p = (25 : Int)))) ( k3 p (decide (p = (26 : Int))))))))))))))))
def o30_3 (p : Int) (s : Bool) : Option Int :=
  ifB s ( some 2) ( ifB (decide (p = (7 : Int))) ( ifB (decide (p = (7 : Int))) ( some 3) ( ifB (decide (p = (28 : Int))) ( some 4) ( some (-1 : Int)))) ( ifB (decide (p = (19 : Int))) ( ifB (decide (p = (19 : Int))) ( some 3) ( ifB (decide (p = (28 : Int))) ( some 4) ( some (-1 : Int)))) ( ifB (decide (p = (20 : Int))) ( ifB (decide (p = (20 : Int))) ( some 3) ( ifB (decide (p = (28 : Int))) ( some 4) ( some (-1 : Int)))) ( ifB (decide (p = (27 : Int))) ( some 3) ( ifB (decide (p = (28 : Int))) ( some 4) ( some (-1 : Int)))))))
def c30_3 (p : Int) (s : Bool) : Option Int :=
  o30_3 p s
def c30_2 (p : Int) (r : Bool) : Option Int :=
  o30_2 (c30_3) p r
def c30_1 (p : Int) (q : Bool) : Option Int :=
  o30_1 (c30_2) p q
def f30 (a0 : Int) : Option Int := o30_0 (c30_1) a0
def F30 : Fn := ⟨30, (.n none [] 0 .z (.n none [] 0 (.n none [] 0 .z (.n none [] 0 (.n (some 1) [(3, .one .c), (4, .one .c)] 0 .z (.n none [] 0 .z (.n (some 2) [(3, .one .c), (7, .one .c)] 0 .z (.n none [] 0 .z (.n (some 3) [(3, .one .c), (16, .one .c)] 0 .z .z))))) .z)) .z)), [.tmp 2], [.sc .int], [.sc .int], false, true, 37, 5, []⟩
def C30 : Cal := ⟨30, F30.ps, F30.rs, F30.fr, fun a => f30 a.1⟩
def cs30 : List Cal := []
theorem w30 (x) : F30.W Tryz.f30 tabR cs30 0 x = o30_0 (c30_1) x.1 := by kernel_rfl
theorem ok30 : C30.Ok Tryz.prog := okOf F30 Tryz.func30 htabR (cs := cs30) (by kernel_rfl) (mN) (fun x => ⟨0, w30 x⟩)
-- tranship/deriv.Inner
def o31_0 (k1 : Int -> Int -> Bool -> Option Bool) (a0 a1 : Int) : Option Bool :=
  ifB (decide (a0 = (3 : Int))) ( k1 a1 a0 (decide (a0 = (3 : Int)))) ( ifB (decide (a0 = (6 : Int))) ( k1 a1 a0 (decide (a0 = (6 : Int)))) ( ifB (decide (a0 = (4 : Int))) ( k1 a1 a0 (decide (a0 = (4 : Int)))) ( ifB (decide (a0 = (7 : Int))) ( k1 a1 a0 (decide (a0 = (7 : Int)))) ( ifB (decide (a0 = (19 : Int))) ( k1 a1 a0 (decide (a0 = (19 : Int)))) ( ifB (decide (a0 = (20 : Int))) ( k1 a1 a0 (decide (a0 = (20 : Int)))) ( ifB (decide (a0 = (18 : Int))) ( k1 a1 a0 (decide (a0 = (18 : Int)))) ( ifB (decide (a0 = (23 : Int))) ( k1 a1 a0 (decide (a0 = (23 : Int)))) ( ifB (decide (a0 = (25 : Int))) ( k1 a1 a0 (decide (a0 = (25 : Int)))) ( ifB (decide (a0 = (26 : Int))) ( k1 a1 a0 (decide (a0 = (26 : Int)))) ( k1 a1 a0 (decide (a0 = (28 : Int)))))))))))))
def o31_1 (p q : Int) (r : Bool) : Option Bool :=
  ifB r ( some (decide (p = (1 : Int)))) ( ifB (decide (q = (27 : Int))) ( ifB (decide (p = (1 : Int))) ( some true) ( some (decide (p = (2 : Int))))) ( some false))
def c31_1 (p q : Int) (r : Bool) : Option Bool :=
  o31_1 p q r
def f31 (a0 a1 : Int) : Option Bool := o31_0 (c31_1) a0 a1
def F31 : Fn := ⟨31, (.n none [] 0 .z (.n none [] 0 (.n none [] 0 .z (.n none [] 0 (.n (some 1) [(1, .one .c), (5, .one .c), (6, .one .c)] 0 .z .z) .z)) .z)), [.tmp 4], [.sc .int, .sc .int], [.sc .bool], false, true, 28, 3, []⟩
def C31 : Cal := ⟨31, F31.ps, F31.rs, F31.fr, fun a => f31 a.1 a.2.1⟩
def cs31 : List Cal := []
theorem w31 (x) : F31.W Tryz.f31 tabR cs31 0 x = o31_0 (c31_1) x.1 x.2.1 := by kernel_rfl
theorem ok31 : C31.Ok Tryz.prog := okOf F31 Tryz.func31 htabR (cs := cs31) (by kernel_rfl) (mN) (fun x => ⟨0, w31 x⟩)
-- tranship/deriv.Equal
def o66_0 (a0 : Int) : Option Bool :=
  ifB (decide ((13 : Int) ≤ a0)) ( some (decide (a0 ≤ (28 : Int)))) ( some false)
def f66 (a0 : Int) : Option Bool := o66_0 a0
def F66 : Fn := ⟨66, .z, [.tmp 2], [.sc .int], [.sc .bool], false, true, 9, 2, []⟩
def C66 : Cal := ⟨66, F66.ps, F66.rs, F66.fr, fun a => f66 a.1⟩
def cs66 : List Cal := []
theorem w66 (x) : F66.W Tryz.f66 tabR cs66 0 x = o66_0 x.1 := by kernel_rfl
theorem ok66 : C66.Ok Tryz.prog := okOf F66 Tryz.func66 htabR (cs := cs66) (by kernel_rfl) (mN) (fun x => ⟨0, w66 x⟩)
-- tranship/transhipref11.Kids
def o37_0 (a0 : Int) : Option Int :=
  ifB (decide (a0 < (1 : Int))) ( some (-1 : Int)) ( ifB (decide (([(0 : Int), (0 : Int), (2 : Int), (2 : Int), (2 : Int), (2 : Int), (3 : Int), (1 : Int), (1 : Int), (2 : Int), (1 : Int), (2 : Int), (1 : Int), (1 : Int), (2 : Int), (2 : Int), (1 : Int), (2 : Int), (3 : Int), (3 : Int), (1 : Int), (1 : Int), (2 : Int), (2 : Int), (2 : Int), (2 : Int), (3 : Int), (4 : Int)].length : Int) < a0)) ( some (-1 : Int)) ( ckI (a0 - (1 : Int)) <| ckB (decide (0 ≤ (a0 - (1 : Int))) && decide ((a0 - (1 : Int)) < [(0 : Int), (0 : Int), (2 : Int), (2 : Int), (2 : Int), (2 : Int), (3 : Int), (1 : Int), (1 : Int), (2 : Int), (1 : Int), (2 : Int), (1 : Int), (1 : Int), (2 : Int), (2 : Int), (1 : Int), (2 : Int), (3 : Int), (3 : Int), (1 : Int), (1 : Int), (2 : Int), (2 : Int), (2 : Int), (2 : Int), (3 : Int), (4 : Int)].length)) <| atN [(0 : Int), (0 : Int), (2 : Int), (2 : Int), (2 : Int), (2 : Int), (3 : Int), (1 : Int), (1 : Int), (2 : Int), (1 : Int), (2 : Int), (1 : Int), (1 : Int), (2 : Int), (2 : Int), (1 : Int), (2 : Int), (3 : Int), (3 : Int), (1 : Int), (1 : Int), (2 : Int), (2 : Int), (2 : Int), (2 : Int), (3 : Int), (4 : Int)] (a0 - (1 : Int)).toNat fun x1 => some x1))
def f37 (a0 : Int) : Option Int := o37_0 a0
def F37 : Fn := ⟨37, .z, [.tmp 2], [.sc .int], [.sc .int], false, true, 18, 2, []⟩
def C37 : Cal := ⟨37, F37.ps, F37.rs, F37.fr, fun a => f37 a.1⟩
def cs37 : List Cal := []
theorem w37 (x) : F37.W Tryz.f37 tabR cs37 0 x = o37_0 x.1 := by kernel_rfl
theorem ok37 : C37.Ok Tryz.prog := okOf F37 Tryz.func37 htabR (cs := cs37) (by kernel_rfl) (mN) (fun x => ⟨0, w37 x⟩)
-- tranship/transhipref11.Inner
def o71_0 (k1 : Int -> Int -> Bool -> Option Bool) (a0 a1 : Int) : Option Bool :=
  ifB (decide (a0 = (3 : Int))) ( k1 a1 a0 (decide (a0 = (3 : Int)))) ( ifB (decide (a0 = (6 : Int))) ( k1 a1 a0 (decide (a0 = (6 : Int)))) ( ifB (decide (a0 = (4 : Int))) ( k1 a1 a0 (decide (a0 = (4 : Int)))) ( ifB (decide (a0 = (7 : Int))) ( k1 a1 a0 (decide (a0 = (7 : Int)))) ( ifB (decide (a0 = (19 : Int))) ( k1 a1 a0 (decide (a0 = (19 : Int)))) ( ifB (decide (a0 = (20 : Int))) ( k1 a1 a0 (decide (a0 = (20 : Int)))) ( ifB (decide (a0 = (18 : Int))) ( k1 a1 a0 (decide (a0 = (18 : Int)))) ( ifB (decide (a0 = (23 : Int))) ( k1 a1 a0 (decide (a0 = (23 : Int)))) ( ifB (decide (a0 = (25 : Int))) ( k1 a1 a0 (decide (a0 = (25 : Int)))) ( ifB (decide (a0 = (26 : Int))) ( k1 a1 a0 (decide (a0 = (26 : Int)))) ( k1 a1 a0 (decide (a0 = (28 : Int)))))))))))))
def o71_1 (p q : Int) (r : Bool) : Option Bool :=
  ifB r ( some (decide (p = (1 : Int)))) ( ifB (decide (q = (27 : Int))) ( ifB (decide (p = (1 : Int))) ( some true) ( some (decide (p = (2 : Int))))) ( some false))
def c71_1 (p q : Int) (r : Bool) : Option Bool :=
  o71_1 p q r
def f71 (a0 a1 : Int) : Option Bool := o71_0 (c71_1) a0 a1
def F71 : Fn := ⟨71, (.n none [] 0 .z (.n none [] 0 (.n none [] 0 .z (.n none [] 0 (.n (some 1) [(1, .one .c), (5, .one .c), (6, .one .c)] 0 .z .z) .z)) .z)), [.tmp 4], [.sc .int, .sc .int], [.sc .bool], false, true, 28, 3, []⟩
def C71 : Cal := ⟨71, F71.ps, F71.rs, F71.fr, fun a => f71 a.1 a.2.1⟩
def cs71 : List Cal := []
theorem w71 (x) : F71.W Tryz.f71 tabR cs71 0 x = o71_0 (c71_1) x.1 x.2.1 := by kernel_rfl
theorem ok71 : C71.Ok Tryz.prog := okOf F71 Tryz.func71 htabR (cs := cs71) (by kernel_rfl) (mN) (fun x => ⟨0, w71 x⟩)
-- tranship/transhipkeep.weighDeriv
-- tranship/transhipkeep.GreatDeriv
-- tranship/deriv.Right
-- tranship/transhipref11.numbered
-- tranship/transhipref11.Right
-- tranship/transhipkeep.Ints
-- tranship/transhipkeep.GreatFile
-- tranship/transhipref11.Rights
end Go.Proofs.YtcaahmielncmpaaGreat
