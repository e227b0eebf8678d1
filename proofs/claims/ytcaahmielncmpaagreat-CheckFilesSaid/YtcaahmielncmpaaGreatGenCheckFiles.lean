/-
  What the statement computes, as a plain function.
-/
import Derived.Test.YtcaahmielncmpaaGreatGenK
import Derived.Test.YtcaahmielncmpaaGreatGenE
import Derived.Test.YtcaahmielncmpaaGreatGenD
import Derived.Test.YtcaahmielncmpaaGreatGenC
import Derived.Test.YtcaahmielncmpaaGreatGenR
import Derived.Test.YtcaahmielncmpaaGreatGenQ
import Derived.Test.YtcaahmielncmpaaGreatGenH
set_option linter.unusedSimpArgs false
set_option linter.unusedVariables false
namespace Go.Proofs.YtcaahmielncmpaaGreat
open Go Go.RowKit
set_option maxRecDepth 100000
-- tranship/transhiplaw16.held
def o16_0 (a0 : Nat) : Option Nat :=
  ifB (fGt a0 4652007308841189376) ( some 4652007308841189376) ( some a0)
def f16 (a0 : Nat) : Option Nat := o16_0 a0
def F16 : Fn := ⟨16, .z, [.tmp 2], [.sc .flt], [.sc .flt], false, true, 6, 2, []⟩
def C16 : Cal := ⟨16, F16.ps, F16.rs, F16.fr, fun a => f16 a.1⟩
def cs16 : List Cal := []
theorem w16 (x) : F16.W Tryz.f16 tabR cs16 0 x = o16_0 x.1 := by kernel_rfl
theorem ok16 : C16.Ok Tryz.prog := okOf F16 Tryz.func16 htabR (cs := cs16) (by kernel_rfl) (mN) (fun x => ⟨0, w16 x⟩)
-- tranship/transhiplaw16.wakes
def o20_0 (n : Nat) : Option Bool :=
  (f17 n ([] : List Ent) (Dv.mk 1 0 ([] : List Dv)) 4611686018427387904).bind fun x1 => (f17 n ([] : List Ent) (Dv.mk 1 0 ([] : List Dv)) 4607182418800017408).bind fun x2 => ifB (decide (x1.2.1 = (0 : Int))) ( ifB (decide (x1.1.i = (2 : Int))) ( ifB (decide (x1.1.a.i = (1 : Int))) ( ifB (decide ((x1.2.2.length : Int) = (0 : Int))) ( some (decide (x2.2.1 = (4 : Int)))) ( some false)) ( some false)) ( some false)) ( some false)
def f20 (n : Nat) : Option Bool := o20_0 n
def F20 : Fn := ⟨20, .z, [.tmp 0], [], [.sc .bool], false, true, 41, 2, []⟩
def C20 (n : Nat) : Cal := ⟨20, F20.ps, F20.rs, F20.fr, fun _ => f20 n⟩
def cs20 (n : Nat) : List Cal := [C17 n]
theorem w20 (n x) : F20.W Tryz.f20 tabR (cs20 n) 0 x = o20_0 n := by kernel_rfl
theorem ok20 (n : Nat) : (C20 n).Ok Tryz.prog := okOf F20 Tryz.func20 htabR (cs := cs20 n) (by kernel_rfl) (mC (ok17 n) <| mN) (fun x => ⟨0, w20 n x⟩)
-- tranship/transhiplaw16.CheckFiles
def o5_0 (n : Nat) (a0 : Fl) (a1 : Nat) : Option Bool :=
  (f21 n a0 40).bind fun x1 => ifB x1 ( some true) ( (f16 a1).bind fun x2 => (f22 n a0 x2).bind fun x3 => (f23 n a0 x2).bind fun x4 => (f24 n a0.ctx x2).bind fun x5 => (f25 n a0.ctx x2).bind fun x6 => ifB (decide (x3.2.2.1 = x4.2.2.1)) ( (f19 n x3.2.2.2 x4.2.2.2).bind fun x7 => ifB x7 ( (f12 n x3.1 x4.1).bind fun x8 => ifB x8 ( (f11 n x3.2.1 x4.2.1).bind fun x9 => ifB x9 ( ifB (decide (x5.2.1 = x6.2.1)) ( (f19 n x5.2.2 x6.2.2).bind fun x10 => ifB x10 ( (f12 n x5.1 x6.1).bind fun x11 => ifB x11 ( (f20 n).bind fun x12 => some x12) ( some false)) ( some false)) ( some false)) ( some false)) ( some false)) ( some false)) ( some false))
def f5 (n : Nat) (a0 : Fl) (a1 : Nat) : Option Bool := o5_0 n a0 a1
def F5 : Fn := ⟨5, .z, [.tmp 4], [.st .fl, .sc .flt], [.sc .bool], false, true, 91, 2, []⟩
def C5 (n : Nat) : Cal := ⟨5, F5.ps, F5.rs, F5.fr, fun a => f5 n a.1 a.2.1⟩
def cs5 (n : Nat) : List Cal := [C11 n, C12 n, C16, C19 n, C20 n, C21 n, C22 n, C23 n, C24 n, C25 n]
theorem w5 (n x) : F5.W Tryz.f5 tabR (cs5 n) 0 x = o5_0 n x.1 x.2.1 := by kernel_rfl
theorem ok5 (n : Nat) : (C5 n).Ok Tryz.prog := okOf F5 Tryz.func5 htabR (cs := cs5 n) (by kernel_rfl) (mC (ok11 n) <| mC (ok12 n) <| mC ok16 <| mC (ok19 n) <| mC (ok20 n) <| mC (ok21 n) <| mC (ok22 n) <| mC (ok23 n) <| mC (ok24 n) <| mC (ok25 n) <| mN) (fun x => ⟨0, w5 n x⟩)
end Go.Proofs.YtcaahmielncmpaaGreat
