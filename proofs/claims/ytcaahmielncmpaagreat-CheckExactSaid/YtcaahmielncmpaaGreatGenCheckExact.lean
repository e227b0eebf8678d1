/-
  What the statement computes, as a plain function.
-/
import Derived.Test.YtcaahmielncmpaaGreatGenK
import Derived.Test.YtcaahmielncmpaaGreatGenE
import Derived.Test.YtcaahmielncmpaaGreatGenD
import Derived.Test.YtcaahmielncmpaaGreatGenC
import Derived.Test.YtcaahmielncmpaaGreatGenR
import Derived.Test.YtcaahmielncmpaaGreatGenQ
import Derived.Test.YtcaahmielncmpaaGreatGenH
set_option linter.unusedSimpArgs false
set_option linter.unusedVariables false
namespace Go.Proofs.YtcaahmielncmpaaGreat
open Go Go.RowKit
set_option maxRecDepth 100000
-- tranship/transhiplaw16.heavy
def o15_0 (n : Nat) (a0 : List Ent) (a1 : Dv) : Option Bool :=
  (f26 n a0 60).bind fun x1 => ifB x1 ( some true) ( (f45 n a1 40).bind fun x2 => some x2)
def f15 (n : Nat) (a0 : List Ent) (a1 : Dv) : Option Bool := o15_0 n a0 a1
def F15 : Fn := ⟨15, .z, [.tmp 4], [.sl .ent, .st .dv], [.sc .bool], false, true, 11, 2, []⟩
def C15 (n : Nat) : Cal := ⟨15, F15.ps, F15.rs, F15.fr, fun a => f15 n a.1 a.2.1⟩
def cs15 (n : Nat) : List Cal := [C26 n, C45 n]
theorem w15 (n x) : F15.W Tryz.f15 tabR (cs15 n) 0 x = o15_0 n x.1 x.2.1 := by kernel_rfl
theorem ok15 (n : Nat) : (C15 n).Ok Tryz.prog := okOf F15 Tryz.func15 htabR (cs := cs15 n) (by kernel_rfl) (mC (ok26 n) <| mC (ok45 n) <| mN) (fun x => ⟨0, w15 n x⟩)
-- tranship/transhiplaw16.held
def o16_0 (a0 : Nat) : Option Nat :=
  ifB (fGt a0 4652007308841189376) ( some 4652007308841189376) ( some a0)
def f16 (a0 : Nat) : Option Nat := o16_0 a0
def F16 : Fn := ⟨16, .z, [.tmp 2], [.sc .flt], [.sc .flt], false, true, 6, 2, []⟩
def C16 : Cal := ⟨16, F16.ps, F16.rs, F16.fr, fun a => f16 a.1⟩
def cs16 : List Cal := []
theorem w16 (x) : F16.W Tryz.f16 tabR cs16 0 x = o16_0 x.1 := by kernel_rfl
theorem ok16 : C16.Ok Tryz.prog := okOf F16 Tryz.func16 htabR (cs := cs16) (by kernel_rfl) (mN) (fun x => ⟨0, w16 x⟩)
-- tranship/transhiplaw16.wakes
def o20_0 (n : Nat) : Option Bool :=
  (f17 n ([] : List Ent) (Dv.mk 1 0 ([] : List Dv)) 4611686018427387904).bind fun x1 => (f17 n ([] : List Ent) (Dv.mk 1 0 ([] : List Dv)) 4607182418800017408).bind fun x2 => ifB (decide (x1.2.1 = (0 : Int))) ( ifB (decide (x1.1.i = (2 : Int))) ( ifB (decide (x1.1.a.i = (1 : Int))) ( ifB (decide ((x1.2.2.length : Int) = (0 : Int))) ( some (decide (x2.2.1 = (4 : Int)))) ( some false)) ( some false)) ( some false)) ( some false)
def f20 (n : Nat) : Option Bool := o20_0 n
def F20 : Fn := ⟨20, .z, [.tmp 0], [], [.sc .bool], false, true, 41, 2, []⟩
def C20 (n : Nat) : Cal := ⟨20, F20.ps, F20.rs, F20.fr, fun _ => f20 n⟩
def cs20 (n : Nat) : List Cal := [C17 n]
theorem w20 (n x) : F20.W Tryz.f20 tabR (cs20 n) 0 x = o20_0 n := by kernel_rfl
theorem ok20 (n : Nat) : (C20 n).Ok Tryz.prog := okOf F20 Tryz.func20 htabR (cs := cs20 n) (by kernel_rfl) (mC (ok17 n) <| mN) (fun x => ⟨0, w20 n x⟩)
-- tranship/transhiplaw16.CheckExact
def o4_0 (n : Nat) (a0 : List Ent) (a1 : Dv) (a2 : Nat) : Option Bool :=
  (f15 n a0 a1).bind fun x1 => ifB x1 ( some true) ( (f16 a2).bind fun x2 => (f17 n a0 a1 x2).bind fun x3 => (f18 n a0 a1 x2).bind fun x4 => ifB (decide (x3.2.1 = x4.2.1)) ( (f19 n x3.2.2 x4.2.2).bind fun x5 => ifB x5 ( (f11 n x3.1 x4.1).bind fun x6 => ifB x6 ( (f20 n).bind fun x7 => some x7) ( some false)) ( some false)) ( some false))
def f4 (n : Nat) (a0 : List Ent) (a1 : Dv) (a2 : Nat) : Option Bool := o4_0 n a0 a1 a2
def F4 : Fn := ⟨4, .z, [.tmp 6], [.sl .ent, .st .dv, .sc .flt], [.sc .bool], false, true, 50, 2, []⟩
def C4 (n : Nat) : Cal := ⟨4, F4.ps, F4.rs, F4.fr, fun a => f4 n a.1 a.2.1 a.2.2.1⟩
def cs4 (n : Nat) : List Cal := [C11 n, C15 n, C16, C17 n, C18 n, C19 n, C20 n]
theorem w4 (n x) : F4.W Tryz.f4 tabR (cs4 n) 0 x = o4_0 n x.1 x.2.1 x.2.2.1 := by kernel_rfl
theorem ok4 (n : Nat) : (C4 n).Ok Tryz.prog := okOf F4 Tryz.func4 htabR (cs := cs4 n) (by kernel_rfl) (mC (ok11 n) <| mC (ok15 n) <| mC ok16 <| mC (ok17 n) <| mC (ok18 n) <| mC (ok19 n) <| mC (ok20 n) <| mN) (fun x => ⟨0, w4 n x⟩)
end Go.Proofs.YtcaahmielncmpaaGreat
