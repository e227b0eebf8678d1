/-
  What the statement computes, as a plain function.
-/
import Derived.Test.YtcaahmielncmpaaGreatGenK
import Derived.Test.YtcaahmielncmpaaGreatGenE
import Derived.Test.YtcaahmielncmpaaGreatGenD
import Derived.Test.YtcaahmielncmpaaGreatGenC
import Derived.Test.YtcaahmielncmpaaGreatGenR
import Derived.Test.YtcaahmielncmpaaGreatGenQ
import Derived.Test.YtcaahmielncmpaaGreatTurn
set_option linter.unusedSimpArgs false
set_option linter.unusedVariables false
namespace Go.Proofs.YtcaahmielncmpaaGreat
open Go Go.RowKit
set_option maxRecDepth 100000
-- tranship/transhiplaw15.heavy
def o6_0 (n : Nat) (a0 : List Ent) (a1 : List Jd) : Option Bool :=
  (f26 n a0 60).bind fun x1 => ifB x1 ( some true) ( (f27 n a1 180).bind fun x2 => ifB x2 ( some true) ( some (decide ((8 : Int) < (a1.length : Int)))))
def f6 (n : Nat) (a0 : List Ent) (a1 : List Jd) : Option Bool := o6_0 n a0 a1
def F6 : Fn := ⟨6, .z, [.tmp 4], [.sl .ent, .sl .jd], [.sc .bool], false, true, 16, 2, []⟩
def C6 (n : Nat) : Cal := ⟨6, F6.ps, F6.rs, F6.fr, fun a => f6 n a.1 a.2.1⟩
def cs6 (n : Nat) : List Cal := [C26 n, C27 n]
theorem w6 (n x) : F6.W Tryz.f6 tabR (cs6 n) 0 x = o6_0 n x.1 x.2.1 := by kernel_rfl
theorem ok6 (n : Nat) : (C6 n).Ok Tryz.prog := okOf F6 Tryz.func6 htabR (cs := cs6 n) (by kernel_rfl) (mC (ok26 n) <| mC (ok27 n) <| mN) (fun x => ⟨0, w6 n x⟩)
-- tranship/transhiplaw15.wakes
def o14_0 (n : Nat) : Option Bool :=
  (f9 n ([] : List Ent) 1 3 ([] : List Jd)).bind fun x1 => (f44 n ([] : List Ent) 3 1 [(Jd.mk x1.1.eq (Tm.mk x1.1.u.kind x1.1.u.i x1.1.u.j x1.1.u.n x1.1.u.kids) (Tm.mk x1.1.v.kind x1.1.v.i x1.1.v.j x1.1.v.n x1.1.v.kids) (Tm.mk x1.1.a.kind x1.1.a.i x1.1.a.j x1.1.a.n x1.1.a.kids) x1.1.i)]).bind fun x2 => (f9 n ([] : List Ent) 1 901 ([] : List Jd)).bind fun x3 => ifB x1.2 ( ifB (decide (x1.1.i = (5 : Int))) ( ifB (decide (x1.1.u.kind = (1 : Int))) ( ifB (decide (x1.1.u.i = (3 : Int))) ( ifB (decide (x1.1.a.i = (4 : Int))) ( ifB x2.2 ( ifB (decide ((x2.1.length : Int) = (1 : Int))) ( atI x2.1 0 fun x4 => ifB (decide (x4.i = (4 : Int))) ( some (!x3.2)) ( some false)) ( some false)) ( some false)) ( some false)) ( some false)) ( some false)) ( some false)) ( some false)
def f14 (n : Nat) : Option Bool := o14_0 n
def F14 : Fn := ⟨14, .z, [.tmp 0], [], [.sc .bool], false, true, 64, 2, []⟩
def C14 (n : Nat) : Cal := ⟨14, F14.ps, F14.rs, F14.fr, fun _ => f14 n⟩
def cs14 (n : Nat) : List Cal := [C9 n, C44 n]
theorem w14 (n x) : F14.W Tryz.f14 tabR (cs14 n) 0 x = o14_0 n := by kernel_rfl
theorem ok14 (n : Nat) : (C14 n).Ok Tryz.prog := okOf F14 Tryz.func14 htabR (cs := cs14 n) (by kernel_rfl) (mC (ok9 n) <| mC (ok44 n) <| mN) (fun x => ⟨0, w14 n x⟩)
-- tranship/transhiplaw15.RuleExact
def o3_0 (n : Nat) (k1 : (List Ent) -> (List Jd) -> (List Ent) -> (List Jd) -> Int -> Option Bool) (a0 : List Ent) (a1 a2 : Int) (a3 : List Jd) : Option Bool :=
  (f6 n a0 a3).bind fun x1 => ifB x1 ( some true) ( (f7 n a0).bind fun x2 => (f8 n a3).bind fun x3 => (f9 n x2 a1 a2 x3).bind fun x4 => (f10 n a0 a1 a2 a3).bind fun x5 => ifB (!(x4.2 == x5.2)) ( some false) ( (f11 n x4.1 x5.1).bind fun x6 => ifB (!x6) ( some false) ( (f12 n x2 a0).bind fun x7 => ifB (!x7) ( some false) ( ifB (!decide ((x3.length : Int) = (a3.length : Int))) ( some false) ( ckB (decide (Tm.size x4.1.u ≤ BIG) && (decide (Tm.size x4.1.v ≤ BIG) && decide (Tm.size x4.1.a ≤ BIG))) <| k1 a0 a3 x2 x3 0)))))
def o3_1 (n : Nat) (k1 : (List Ent) -> (List Jd) -> (List Ent) -> (List Jd) -> Int -> Option Bool) (r : List Ent) (q : List Jd) (s : List Ent) (t : List Jd) (p : Int) : Option Bool :=
  ifB (decide (p < (q.length : Int))) ( atI t p fun x8 => atI q p fun x9 => (f11 n x8 x9).bind fun x10 => ifB (!x10) ( some false) ( ckI (p + (1 : Int)) <| k1 r q s t (p + (1 : Int)))) ( (f12 n s r).bind fun x11 => ifB x11 ( (f14 n).bind fun x12 => some x12) ( some false))
def l3_1 (n : Nat) : Nat → (List Ent) -> (List Jd) -> (List Ent) -> (List Jd) -> Int -> Option Bool
  | 0, _, _, _, _, _ => none
  | m + 1, r, q, s, t, p => o3_1 n (l3_1 n m) r q s t p
def f3 (n : Nat) (a0 : List Ent) (a1 a2 : Int) (a3 : List Jd) : Option Bool := o3_0 n (l3_1 n n) a0 a1 a2 a3
def an3 : An := (.n none [] 2 .z (.n none [] 2 .z (.n none [] 1 .z (.n none [] 2 .z (.n none [] 2 .z (.n none [] 2 .z (.n none [(11, .o), (61, .o), (62, .o), (63, .o), (64, .o), (65, .o), (66, .o), (67, .o), (68, .o), (69, .o)] 3 .z (.n none [] 4 .z (.n none [] 4 .z (.n none [] 0 (.n none [] 0 .z (.n none [] 0 (.n (some 1) [(0, .o), (3, .o), (9, .o), (10, .o), (15, .one .c)] 0 .z .z) .z)) .z))))))))))
def F3 : Fn := ⟨3, an3, [.tmp 8], [.sl .ent, .sc .int, .sc .int, .sl .jd], [.sc .bool], false, true, 92, 3, [1]⟩
def C3 (n : Nat) : Cal := ⟨3, F3.ps, F3.rs, F3.fr, fun a => f3 n a.1 a.2.1 a.2.2.1 a.2.2.2.1⟩
def cs3 (n : Nat) : List Cal := [C6 n, C7 n, C8 n, C9 n, C10 n, C11 n, C12 n, C14 n]
def st3_1 (r : List Ent) (q : List Jd) (s : List Ent) (t : List Jd) (p : Int) : SS := ⟨[(0, .old (.one (.sl .ent r))), (3, .old (.one (.sl .jd q))), (9, .old (.one (.sl .ent s))), (10, .old (.one (.sl .jd t))), (15, .v (.one (.c (.int p) true)))], [], 0⟩
theorem p3_1 (n R r q s t p) : F3.WlT Tryz.f3 tabR (cs3 n) (some 13) R 1 (st3_1 r q s t p) = o3_1 n (fun r q s t p => R 1 (st3_1 r q s t p)) r q s t p := by kernel_rfl
theorem m3_1 (n) : ∀ m : Nat, (∀ r q s t p, F3.WmT Tryz.f3 tabR (cs3 n) (some 13) m 1 (st3_1 r q s t p) = l3_1 n m r q s t p) := by
  intro m
  induction m with
  | zero => exact (by intros; rfl)
  | succ m ih => intros; rw [Fn.WmT_succ, p3_1]; simp only [ih]; rfl
theorem p3_0 (n R x) : F3.W0T Tryz.f3 tabR (cs3 n) (some 13) R x = o3_0 n (fun r q s t p => R 1 (st3_1 r q s t p)) x.1 x.2.1 x.2.2.1 x.2.2.2.1 := by kernel_rfl
theorem w3 (n x) : F3.WT Tryz.f3 tabR (cs3 n) (some 13) n x = o3_0 n (l3_1 n n) x.1 x.2.1 x.2.2.1 x.2.2.2.1 := by
  rw [Fn.WT_eq, p3_0]; simp only [m3_1 n n]; try rfl
theorem tp3 : topP Tryz.prog Tryz.f3.ntmps (bodyOf Tryz.f3) an3 := by
  rw [show topP Tryz.prog Tryz.f3.ntmps (bodyOf Tryz.f3) an3 = ((∀ x2 x3 z, tlC 7 (bodyOf Tryz.f3) = .seq x2 (.seq x3 z) → Sp3Ok Tryz.prog 92 [(11, ShV.o), (61, ShV.o), (62, ShV.o), (63, ShV.o), (64, ShV.o), (65, ShV.o), (66, ShV.o), (67, ShV.o), (68, ShV.o), (69, ShV.o)] (hdC (tlC 6 (bodyOf Tryz.f3))) x2 x3) ∧ True) from by kernel_rfl]
  refine ⟨fun x2 x3 z h => ?_, trivial⟩
  obtain ⟨rfl, rfl⟩ := cut3 h
  exact sp3
theorem ok3 (n : Nat) : (C3 n).Ok Tryz.prog := okOfT F3 (sp := some 13) (fun f h => by cases h; exact spoilOK) Tryz.func3 htabR (cs := cs3 n) (by kernel_rfl) (by kernel_rfl) tp3 (mC (ok6 n) <| mC (ok7 n) <| mC (ok8 n) <| mC (ok9 n) <| mC (ok10 n) <| mC (ok11 n) <| mC (ok12 n) <| mC (ok14 n) <| mN) (fun x => ⟨n, w3 n x⟩)
end Go.Proofs.YtcaahmielncmpaaGreat
