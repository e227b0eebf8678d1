/-
  What the rules and their copies compute.
-/
import Derived.Test.YtcaahmielncmpaaGreatGenC
import Derived.Test.YtcaahmielncmpaaGreatGenD
set_option linter.unusedSimpArgs false
set_option linter.unusedVariables false
namespace Go.Proofs.YtcaahmielncmpaaGreat
open Go Go.RowKit
set_option maxRecDepth 100000
-- tranship/rule.pure
def o29_0 (n : Nat) (k1 : (List Ent) -> Int -> Int -> Option Bool) (a0 : List Ent) : Option Bool :=
  (f57 n a0).bind fun x1 => ifB (!x1) ( some false) ( k1 a0 (a0.length : Int) 0)
def o29_1 (n : Nat) (k1 : (List Ent) -> Int -> Int -> Option Bool) (q : List Ent) (r p : Int) : Option Bool :=
  ifB (decide (p < r)) ( atI q p fun x2 => (f58 n x2.a).bind fun x3 => ifB (!x3) ( some false) ( ckI (p + (1 : Int)) <| k1 q r (p + (1 : Int)))) ( some true)
def l29_1 (n : Nat) : Nat → (List Ent) -> Int -> Int -> Option Bool
  | 0, _, _, _ => none
  | m + 1, q, r, p => o29_1 n (l29_1 n m) q r p
def f29 (n : Nat) (a0 : List Ent) : Option Bool := o29_0 n (l29_1 n n) a0
def F29 : Fn := ⟨29, (.n none [] 0 .z (.n none [] 0 .z (.n none [] 0 (.n none [] 0 .z (.n none [] 0 (.n (some 1) [(8, .one (.d .ent false)), (9, .one .c), (10, .one .c)] 0 .z .z) .z)) .z))), [.tmp 2], [.sl .ent], [.sc .bool], false, true, 19, 3, [1]⟩
def C29 (n : Nat) : Cal := ⟨29, F29.ps, F29.rs, F29.fr, fun a => f29 n a.1⟩
def cs29 (n : Nat) : List Cal := [C57 n, C58 n]
def st29_1 (q : List Ent) (r p : Int) : SS := ⟨[(8, .v (.one (.c (.sl .ent q) false))), (9, .v (.one (.c (.int r) true))), (10, .v (.one (.c (.int p) true)))], [], 0⟩
theorem p29_1 (n R q r p) : F29.Wl Tryz.f29 tabR (cs29 n) R 1 (st29_1 q r p) = o29_1 n (fun q r p => R 1 (st29_1 q r p)) q r p := by kernel_rfl
theorem m29_1 (n) : ∀ m : Nat, (∀ q r p, F29.Wm Tryz.f29 tabR (cs29 n) m 1 (st29_1 q r p) = l29_1 n m q r p) := by
  intro m
  induction m with
  | zero => exact (by intros; rfl)
  | succ m ih => intros; rw [Fn.Wm_succ, p29_1]; simp only [ih]; rfl
theorem p29_0 (n R x) : F29.W0 Tryz.f29 tabR (cs29 n) R x = o29_0 n (fun q r p => R 1 (st29_1 q r p)) x.1 := by kernel_rfl
theorem w29 (n x) : F29.W Tryz.f29 tabR (cs29 n) n x = o29_0 n (l29_1 n n) x.1 := by
  rw [Fn.W_eq, p29_0]; simp only [m29_1 n n]; try rfl
theorem ok29 (n : Nat) : (C29 n).Ok Tryz.prog := okOf F29 Tryz.func29 htabR (cs := cs29 n) (by kernel_rfl) (mC (ok57 n) <| mC (ok58 n) <| mN) (fun x => ⟨n, w29 n x⟩)
-- tranship/rule.typed
def o59_0 (a0 : Jd) (a1 : Bool) : Option (Int × Bool) :=
  ifB (a0.eq == a1) ( ifB (decide (a0.a.kind = (1 : Int))) ( ckI (a0.a.i + (1 : Int)) <| some (a0.a.i, (decide (a0.i = (a0.a.i + (1 : Int)))))) ( some (a0.a.i, false))) ( some (a0.a.i, false))
def f59 (a0 : Jd) (a1 : Bool) : Option (Int × Bool) := o59_0 a0 a1
def F59 : Fn := ⟨59, .z, [.tmp 4, .tmp 5], [.st .jd, .sc .bool], [.sc .int, .sc .bool], false, true, 30, 2, []⟩
def C59 : Cal := ⟨59, F59.ps, F59.rs, F59.fr, fun a => f59 a.1 a.2.1⟩
def cs59 : List Cal := []
theorem w59 (x) : F59.W Tryz.f59 tabR cs59 0 x = o59_0 x.1 x.2.1 := by kernel_rfl
theorem ok59 : C59.Ok Tryz.prog := okOf F59 Tryz.func59 htabR (cs := cs59) (by kernel_rfl) (mN) (fun x => ⟨0, w59 x⟩)
-- tranship/rule.entry
def o32_0 (k1 : Jd -> Int -> Int -> Int -> Int -> Int -> Int -> Bool -> Option (Ent × Bool)) (a0 : Int) (a1 : Jd) : Option (Ent × Bool) :=
  ifB (decide (a0 = (3 : Int))) ( k1 a1 0 0 0 0 0 a0 (decide (a0 = (3 : Int)))) ( ifB (decide (a0 = (6 : Int))) ( k1 a1 0 0 0 0 0 a0 (decide (a0 = (6 : Int)))) ( k1 a1 0 0 0 0 0 a0 (decide (a0 = (4 : Int)))))
def o32_1 (k2 : Jd -> Int -> Int -> Int -> Int -> Int -> Int -> Bool -> Option (Ent × Bool)) (p : Jd) (r s t u v q : Int) (w : Bool) : Option (Ent × Bool) :=
  ifB w ( (f59 p false).bind fun x1 => some ((Ent.mk (Tm.mk p.u.kind p.u.i p.u.j p.u.n p.u.kids) x1.1), x1.2)) ( ifB (decide (q = (25 : Int))) ( k2 p r s t u v q (decide (q = (25 : Int)))) ( ifB (decide (q = (26 : Int))) ( k2 p r s t u v q (decide (q = (26 : Int)))) ( ifB (decide (q = (27 : Int))) ( k2 p r s t u v q (decide (q = (27 : Int)))) ( k2 p r s t u v q (decide (q = (28 : Int)))))))
def o32_2 (p : Jd) (r s t u v q : Int) (y : Bool) : Option (Ent × Bool) :=
  ifB y ( (f59 p true).bind fun x2 => some ((Ent.mk (Tm.mk p.u.kind p.u.i p.u.j p.u.n p.u.kids) x2.1), x2.2)) ( ifB (decide (q = (23 : Int))) ( some ((Ent.mk (Tm.mk p.a.kind p.a.i p.a.j p.a.n p.a.kids) p.i), p.eq)) ( some ((Ent.mk (Tm.mk p.a.kind p.a.i p.a.j p.a.n p.a.kids) p.i), (!p.eq))))
def c32_2 (p : Jd) (r s t u v q : Int) (y : Bool) : Option (Ent × Bool) :=
  o32_2 p r s t u v q y
def c32_1 (p : Jd) (r s t u v q : Int) (w : Bool) : Option (Ent × Bool) :=
  o32_1 (c32_2) p r s t u v q w
def f32 (a0 : Int) (a1 : Jd) : Option (Ent × Bool) := o32_0 (c32_1) a0 a1
def F32 : Fn := ⟨32, (.n none [] 0 .z (.n none [] 0 (.n none [] 0 .z (.n none [] 0 (.n (some 1) [(3, .ps 0 .jd false), (4, .p 1 [.c, .c, .c, .c, .k, .c]), (10, .one .c), (11, .one .c)] 2 .z (.n none [] 0 .z (.n (some 2) [(3, .ps 0 .jd false), (4, .p 1 [.c, .c, .c, .c, .k, .c]), (10, .one .c), (25, .one .c)] 2 .z .z))) .z)) .z)), [.cell 4 63, .tmp 5], [.sc .int, .st .jd], [.st .ent, .sc .bool], false, false, 57, 4, []⟩
def C32 : Cal := ⟨32, F32.ps, F32.rs, F32.fr, fun a => f32 a.1 a.2.1⟩
def cs32 : List Cal := [C59]
theorem w32 (x) : F32.W Tryz.f32 tabR cs32 0 x = o32_0 (c32_1) x.1 x.2.1 := by kernel_rfl
theorem ok32 : C32.Ok Tryz.prog := okOf F32 Tryz.func32 htabR (cs := cs32) (by kernel_rfl) (mC ok59 <| mN) (fun x => ⟨0, w32 x⟩)
-- tranship/rule.right$1
def o60_0 (n : Nat) (a0 : Tm) (a1 : Int × Unit) : Option Bool :=
  (f58 n a0).bind fun x1 => ifB x1 ( (f61 n a0).bind fun x2 => some (decide (x2 ≤ a1.1))) ( some false)
def f60 (n : Nat) (a0 : Tm) (a1 : Int × Unit) : Option Bool := o60_0 n a0 a1
def F60 : Fn := ⟨60, .z, [.tmp 3], [.st .tm, .ro [(false, .int)]], [.sc .bool], false, true, 12, 2, []⟩
def C60 (n : Nat) : Cal := ⟨60, F60.ps, F60.rs, F60.fr, fun a => f60 n a.1 a.2.1⟩
def cs60 (n : Nat) : List Cal := [C58 n, C61 n]
theorem w60 (n x) : F60.W Tryz.f60 tabR (cs60 n) 0 x = o60_0 n x.1 x.2.1 := by kernel_rfl
theorem ok60 (n : Nat) : (C60 n).Ok Tryz.prog := okOf F60 Tryz.func60 htabR (cs := cs60 n) (by kernel_rfl) (mC (ok58 n) <| mC (ok61 n) <| mN) (fun x => ⟨0, w60 n x⟩)
-- tranship/rule.nothing
def o62_0 (a0 : Tm) : Option Bool :=
  ifB (decide (a0.kind = (0 : Int))) ( ifB (decide (a0.i = (0 : Int))) ( ifB (decide (a0.j = (0 : Int))) ( ifB (decide (a0.n = (0 : Int))) ( some (decide ((a0.kids.length : Int) = (0 : Int)))) ( some false)) ( some false)) ( some false)) ( some false)
def f62 (a0 : Tm) : Option Bool := o62_0 a0
def F62 : Fn := ⟨62, .z, [.tmp 2], [.st .tm], [.sc .bool], false, true, 27, 2, []⟩
def C62 : Cal := ⟨62, F62.ps, F62.rs, F62.fr, fun a => f62 a.1⟩
def cs62 : List Cal := []
theorem w62 (x) : F62.W Tryz.f62 tabR cs62 0 x = o62_0 x.1 := by kernel_rfl
theorem ok62 : C62.Ok Tryz.prog := okOf F62 Tryz.func62 htabR (cs := cs62) (by kernel_rfl) (mN) (fun x => ⟨0, w62 x⟩)
-- tranship/rule.right
def o33_0 (n : Nat) (k1 : Jd -> Int -> Option Bool) (a0 : Jd) (a1 : Int) : Option Bool :=
  ifB (decide (a0.i < (0 : Int))) ( some false) ( ifB (decide ((1000 : Int) < a0.i)) ( some false) ( (f60 n a0.u (a1, ())).bind fun x1 => ifB (!x1) ( some false) ( (f60 n a0.a (a1, ())).bind fun x2 => ifB (!x2) ( some false) ( k1 a0 a1))))
def o33_1 (n : Nat) (p : Jd) (q : Int) : Option Bool :=
  ifB p.eq ( (f60 n p.v (q, ())).bind fun x3 => some x3) ( (f62 p.v).bind fun x4 => some x4)
def c33_1 (n : Nat) (p : Jd) (q : Int) : Option Bool :=
  o33_1 n p q
def f33 (n : Nat) (a0 : Jd) (a1 : Int) : Option Bool := o33_0 n (c33_1 n) a0 a1
def F33 : Fn := ⟨33, (.n none [] 0 .z (.n none [] 0 .z (.n (some 1) [(2, .ps 0 .jd false), (5, .f 1 60 [.c])] 2 .z .z))), [.tmp 4], [.st .jd, .sc .int], [.sc .bool], false, true, 38, 3, []⟩
def C33 (n : Nat) : Cal := ⟨33, F33.ps, F33.rs, F33.fr, fun a => f33 n a.1 a.2.1⟩
def cs33 (n : Nat) : List Cal := [C60 n, C62]
theorem w33 (n x) : F33.W Tryz.f33 tabR (cs33 n) 0 x = o33_0 n (c33_1 n) x.1 x.2.1 := by kernel_rfl
theorem ok33 (n : Nat) : (C33 n).Ok Tryz.prog := okOf F33 Tryz.func33 htabR (cs := cs33 n) (by kernel_rfl) (mC (ok60 n) <| mC ok62 <| mN) (fun x => ⟨0, w33 n x⟩)
-- tranship/rule.equal
def o94_0 (a0 a1 a2 : Tm) (a3 : Int) : Option Jd :=
  some (Jd.mk true (Tm.mk a0.kind a0.i a0.j a0.n a0.kids) (Tm.mk a1.kind a1.i a1.j a1.n a1.kids) (Tm.mk a2.kind a2.i a2.j a2.n a2.kids) a3)
def f94 (a0 a1 a2 : Tm) (a3 : Int) : Option Jd := o94_0 a0 a1 a2 a3
def F94 : Fn := ⟨94, .z, [.cell 8 31], [.st .tm, .st .tm, .st .tm, .sc .int], [.st .jd], false, false, 14, 2, []⟩
def C94 : Cal := ⟨94, F94.ps, F94.rs, F94.fr, fun a => f94 a.1 a.2.1 a.2.2.1 a.2.2.2.1⟩
def cs94 : List Cal := []
theorem w94 (x) : F94.W Tryz.f94 tabR cs94 0 x = o94_0 x.1 x.2.1 x.2.2.1 x.2.2.2.1 := by kernel_rfl
theorem ok94 : C94.Ok Tryz.prog := okOf F94 Tryz.func94 htabR (cs := cs94) (by kernel_rfl) (mN) (fun x => ⟨0, w94 x⟩)
-- tranship/rule.has
def o95_0 (n : Nat) (a0 : Jd) (a1 : Bool) (a2 : Tm) (a3 : Int) : Option Bool :=
  ifB (a0.eq == a1) ( ifB (decide (a0.i = a3)) ( (f96 n a0.a a2).bind fun x1 => some x1) ( some false)) ( some false)
def f95 (n : Nat) (a0 : Jd) (a1 : Bool) (a2 : Tm) (a3 : Int) : Option Bool := o95_0 n a0 a1 a2 a3
def F95 : Fn := ⟨95, .z, [.tmp 8], [.st .jd, .sc .bool, .st .tm, .sc .int], [.sc .bool], false, true, 25, 2, []⟩
def C95 (n : Nat) : Cal := ⟨95, F95.ps, F95.rs, F95.fr, fun a => f95 n a.1 a.2.1 a.2.2.1 a.2.2.2.1⟩
def cs95 (n : Nat) : List Cal := [C96 n]
theorem w95 (n x) : F95.W Tryz.f95 tabR (cs95 n) 0 x = o95_0 n x.1 x.2.1 x.2.2.1 x.2.2.2.1 := by kernel_rfl
theorem ok95 (n : Nat) : (C95 n).Ok Tryz.prog := okOf F95 Tryz.func95 htabR (cs := cs95 n) (by kernel_rfl) (mC (ok96 n) <| mN) (fun x => ⟨0, w95 n x⟩)
-- tranship/rule.converts
def o97_0 (n : Nat) (a0 a1 : Jd) : Option Bool :=
  (f59 a1 true).bind fun x1 => ifB x1.2 ( ifB (decide (x1.1 = a0.i)) ( (f96 n a0.a a1.u).bind fun x2 => some x2) ( some false)) ( some false)
def f97 (n : Nat) (a0 a1 : Jd) : Option Bool := o97_0 n a0 a1
def F97 : Fn := ⟨97, .z, [.tmp 4], [.st .jd, .st .jd], [.sc .bool], false, true, 26, 2, []⟩
def C97 (n : Nat) : Cal := ⟨97, F97.ps, F97.rs, F97.fr, fun a => f97 n a.1 a.2.1⟩
def cs97 (n : Nat) : List Cal := [C59, C96 n]
theorem w97 (n x) : F97.W Tryz.f97 tabR (cs97 n) 0 x = o97_0 n x.1 x.2.1 := by kernel_rfl
theorem ok97 (n : Nat) : (C97 n).Ok Tryz.prog := okOf F97 Tryz.func97 htabR (cs := cs97 n) (by kernel_rfl) (mC ok59 <| mC (ok96 n) <| mN) (fun x => ⟨0, w97 n x⟩)
-- (tranship/rule.fam).of
def o101_0 (a0 : Fm) (a1 : Int) (a2 : List Tm) : Option Tm :=
  ckB (decide (([(Tm.mk a0.a.kind a0.a.i a0.a.j a0.a.n a0.a.kids), (Tm.mk a0.b.kind a0.b.i a0.b.j a0.b.n a0.b.kids)].length + a2.length) * 56 ≤ 140737488355328) && decide ([(Tm.mk a0.a.kind a0.a.i a0.a.j a0.a.n a0.a.kids), (Tm.mk a0.b.kind a0.b.i a0.b.j a0.b.n a0.b.kids)].length + a2.length ≤ 9223372036854775807)) <| (f105 a1 a0.i a0.j 0 ([(Tm.mk a0.a.kind a0.a.i a0.a.j a0.a.n a0.a.kids), (Tm.mk a0.b.kind a0.b.i a0.b.j a0.b.n a0.b.kids)] ++ a2)).bind fun x1 => some x1
def f101 (a0 : Fm) (a1 : Int) (a2 : List Tm) : Option Tm := o101_0 a0 a1 a2
def F101 : Fn := ⟨101, .z, [.cell 6 29], [.st .fm, .sc .int, .sl .tm], [.st .tm], false, false, 20, 2, []⟩
def C101 : Cal := ⟨101, F101.ps, F101.rs, F101.fr, fun a => f101 a.1 a.2.1 a.2.2.1⟩
def cs101 : List Cal := [C105]
theorem w101 (x) : F101.W Tryz.f101 tabR cs101 0 x = o101_0 x.1 x.2.1 x.2.2.1 := by kernel_rfl
theorem ok101 : C101.Ok Tryz.prog := okOf F101 Tryz.func101 htabR (cs := cs101) (by kernel_rfl) (mC ok105 <| mN) (fun x => ⟨0, w101 x⟩)
-- (tranship/rule.fam).m
def o102_0 (a0 : Fm) : Option Int :=
  some (max a0.i a0.j)
def f102 (a0 : Fm) : Option Int := o102_0 a0
def F102 : Fn := ⟨102, .z, [.tmp 2], [.st .fm], [.sc .int], false, true, 8, 2, []⟩
def C102 : Cal := ⟨102, F102.ps, F102.rs, F102.fr, fun a => f102 a.1⟩
def cs102 : List Cal := []
theorem w102 (x) : F102.W Tryz.f102 tabR cs102 0 x = o102_0 x.1 := by kernel_rfl
theorem ok102 : C102.Ok Tryz.prog := okOf F102 Tryz.func102 htabR (cs := cs102) (by kernel_rfl) (mN) (fun x => ⟨0, w102 x⟩)
-- tranship/rule.made
def o99_0 (n : Nat) (k1 : Int -> (List Jd) -> Bool -> Int -> Int -> Int -> Int -> Int -> Int -> Int -> Int -> Int -> Int -> Int -> Int -> Int -> Int -> Int -> Option (Jd × Bool)) (a0 : Int) (a1 : List Jd) : Option (Jd × Bool) :=
  atI a1 0 fun x1 => (f59 x1 true).bind fun x2 => atI a1 1 fun x3 => (f59 x3 true).bind fun x4 => ifB (!x2.2) ( some ((Jd.mk false (Tm.mk 0 0 0 0 []) (Tm.mk 0 0 0 0 []) (Tm.mk 0 0 0 0 []) 0), false)) ( ifB (!x4.2) ( some ((Jd.mk false (Tm.mk 0 0 0 0 []) (Tm.mk 0 0 0 0 []) (Tm.mk 0 0 0 0 []) 0), false)) ( k1 a0 a1 false 0 0 0 0 0 0 0 0 0 0 0 0 0 x2.1 x4.1))
def o99_1 (n : Nat) (k2 : Bool -> Int -> Int -> Int -> Int -> Int -> Int -> Int -> Int -> Int -> Int -> Int -> Int -> Int -> Int -> Int -> Int -> Int -> Int -> Int -> (List Tm) -> Int -> Int -> Int -> Int -> (List Tm) -> Int -> Int -> Int -> Int -> Int -> Int -> (List Tm) -> Int -> Int -> Int -> Int -> (List Tm) -> Jd -> Jd -> Option (Jd × Bool)) (B : Int) (t : List Jd) (u : Bool) (v w y z b c d g i j l o A q p : Int) : Option (Jd × Bool) :=
  atI t 0 fun x5 => atI t 1 fun x6 => atI t 0 fun x7 => atI t 1 fun x8 => ifB (decide (B = (25 : Int))) ( (f101 (Fm.mk q p (Tm.mk x5.u.kind x5.u.i x5.u.j x5.u.n x5.u.kids) (Tm.mk x6.u.kind x6.u.i x6.u.j x6.u.n x6.u.kids)) 3 ([] : List Tm)).bind fun x9 => (f101 (Fm.mk q p (Tm.mk x7.v.kind x7.v.i x7.v.j x7.v.n x7.v.kids) (Tm.mk x8.v.kind x8.v.i x8.v.j x8.v.n x8.v.kids)) 3 ([] : List Tm)).bind fun x10 => (f102 (Fm.mk q p (Tm.mk x5.u.kind x5.u.i x5.u.j x5.u.n x5.u.kids) (Tm.mk x6.u.kind x6.u.i x6.u.j x6.u.n x6.u.kids))).bind fun x11 => (f63 x11).bind fun x12 => (f102 (Fm.mk q p (Tm.mk x5.u.kind x5.u.i x5.u.j x5.u.n x5.u.kids) (Tm.mk x6.u.kind x6.u.i x6.u.j x6.u.n x6.u.kids))).bind fun x13 => ckI (x13 + (1 : Int)) <| (f94 x9 x10 x12 (x13 + (1 : Int))).bind fun x14 => some (x14, true)) ( ifB (decide (B = (26 : Int))) ( (f101 (Fm.mk q p (Tm.mk x5.u.kind x5.u.i x5.u.j x5.u.n x5.u.kids) (Tm.mk x6.u.kind x6.u.i x6.u.j x6.u.n x6.u.kids)) 6 ([] : List Tm)).bind fun x15 => (f101 (Fm.mk q p (Tm.mk x7.v.kind x7.v.i x7.v.j x7.v.n x7.v.kids) (Tm.mk x8.v.kind x8.v.i x8.v.j x8.v.n x8.v.kids)) 6 ([] : List Tm)).bind fun x16 => (f102 (Fm.mk q p (Tm.mk x5.u.kind x5.u.i x5.u.j x5.u.n x5.u.kids) (Tm.mk x6.u.kind x6.u.i x6.u.j x6.u.n x6.u.kids))).bind fun x17 => (f63 x17).bind fun x18 => (f102 (Fm.mk q p (Tm.mk x5.u.kind x5.u.i x5.u.j x5.u.n x5.u.kids) (Tm.mk x6.u.kind x6.u.i x6.u.j x6.u.n x6.u.kids))).bind fun x19 => ckI (x19 + (1 : Int)) <| (f94 x15 x16 x18 (x19 + (1 : Int))).bind fun x20 => some (x20, true)) ( ifB (decide (B = (27 : Int))) ( atI t 2 fun x21 => (f101 (Fm.mk q p (Tm.mk x5.u.kind x5.u.i x5.u.j x5.u.n x5.u.kids) (Tm.mk x6.u.kind x6.u.i x6.u.j x6.u.n x6.u.kids)) 4 [(Tm.mk x21.u.kind x21.u.i x21.u.j x21.u.n x21.u.kids)]).bind fun x22 => (f101 (Fm.mk q p (Tm.mk x7.v.kind x7.v.i x7.v.j x7.v.n x7.v.kids) (Tm.mk x8.v.kind x8.v.i x8.v.j x8.v.n x8.v.kids)) 4 [(Tm.mk x21.v.kind x21.v.i x21.v.j x21.v.n x21.v.kids)]).bind fun x23 => (f101 (Fm.mk q p (Tm.mk x5.u.kind x5.u.i x5.u.j x5.u.n x5.u.kids) (Tm.mk x6.u.kind x6.u.i x6.u.j x6.u.n x6.u.kids)) 3 ([] : List Tm)).bind fun x24 => (f102 (Fm.mk q p (Tm.mk x5.u.kind x5.u.i x5.u.j x5.u.n x5.u.kids) (Tm.mk x6.u.kind x6.u.i x6.u.j x6.u.n x6.u.kids))).bind fun x25 => (f94 x22 x23 x24 x25).bind fun x26 => (f95 n x21 true (Tm.mk x6.u.kind x6.u.i x6.u.j x6.u.n x6.u.kids) p).bind fun x27 => some (x26, x27)) ( atI t 2 fun x28 => atI t 3 fun x29 => (f95 n x28 false (Tm.mk x5.u.kind x5.u.i x5.u.j x5.u.n x5.u.kids) q).bind fun x30 => ifB (!x30) ( some ((Jd.mk false (Tm.mk 0 0 0 0 []) (Tm.mk 0 0 0 0 []) (Tm.mk 0 0 0 0 []) 0), false)) ( (f98 n (Tm.mk x6.u.kind x6.u.i x6.u.j x6.u.n x6.u.kids) x28.u).bind fun x31 => (f95 n x29 false x31 p).bind fun x32 => ifB (!x32) ( some ((Jd.mk false (Tm.mk 0 0 0 0 []) (Tm.mk 0 0 0 0 []) (Tm.mk 0 0 0 0 []) 0), false)) ( k2 u v w y z b c d g i j l o A q p x5.u.kind x5.u.i x5.u.j x5.u.n x5.u.kids x6.u.kind x6.u.i x6.u.j x6.u.n x6.u.kids q p x7.v.kind x7.v.i x7.v.j x7.v.n x7.v.kids x8.v.kind x8.v.i x8.v.j x8.v.n x8.v.kids x28 x29)))))
def o99_2 (n : Nat) (u : Bool) (v w y z b c d g i j l o A C D E G H I : Int) (J : List Tm) (K L M N : Int) (O : List Tm) (P Q S T U V : Int) (W : List Tm) (X Y Z p0 : Int) (p1 : List Tm) (r s : Jd) : Option (Jd × Bool) :=
  (f101 (Fm.mk C D (Tm.mk E G H I J) (Tm.mk K L M N O)) 7 [(Tm.mk r.u.kind r.u.i r.u.j r.u.n r.u.kids), (Tm.mk s.u.kind s.u.i s.u.j s.u.n s.u.kids)]).bind fun x33 => (f101 (Fm.mk P Q (Tm.mk S T U V W) (Tm.mk X Y Z p0 p1)) 7 [(Tm.mk r.u.kind r.u.i r.u.j r.u.n r.u.kids), (Tm.mk s.u.kind s.u.i s.u.j s.u.n s.u.kids)]).bind fun x34 => (f101 (Fm.mk C D (Tm.mk E G H I J) (Tm.mk K L M N O)) 6 ([] : List Tm)).bind fun x35 => (f102 (Fm.mk C D (Tm.mk E G H I J) (Tm.mk K L M N O))).bind fun x36 => (f94 x33 x34 x35 x36).bind fun x37 => some (x37, true)
def c99_2 (n : Nat) (u : Bool) (v w y z b c d g i j l o A C D E G H I : Int) (J : List Tm) (K L M N : Int) (O : List Tm) (P Q S T U V : Int) (W : List Tm) (X Y Z p0 : Int) (p1 : List Tm) (r s : Jd) : Option (Jd × Bool) :=
  o99_2 n u v w y z b c d g i j l o A C D E G H I J K L M N O P Q S T U V W X Y Z p0 p1 r s
def c99_1 (n : Nat) (B : Int) (t : List Jd) (u : Bool) (v w y z b c d g i j l o A q p : Int) : Option (Jd × Bool) :=
  o99_1 n (c99_2 n) B t u v w y z b c d g i j l o A q p
def f99 (n : Nat) (a0 : Int) (a1 : List Jd) : Option (Jd × Bool) := o99_0 n (c99_1 n) a0 a1
def F99 : Fn := ⟨99, (.n none [] 0 .z (.n none [] 0 .z (.n none [] 0 .z (.n (some 1) [(0, .one .c), (1, .one (.d .jd false)), (4, .p 0 [.c, .c, .c, .c, .c, .k, .c, .c, .c, .c, .k, .c, .c, .c, .c, .k, .c]), (6, .one .c), (8, .one .c)] 1 .z (.n none [] 0 .z (.n none [] 0 .z (.n none [] 0 .z (.n (some 2) [(4, .p 0 [.c, .c, .c, .c, .c, .k, .c, .c, .c, .c, .k, .c, .c, .c, .c, .k, .c]), (10, .p 1 [.c, .c, .c, .c, .c, .c, .d .tm false, .c, .c, .c, .c, .d .tm false]), (11, .p 2 [.c, .c, .c, .c, .c, .c, .d .tm false, .c, .c, .c, .c, .d .tm false]), (13, .ps 3 .jd false), (14, .ps 4 .jd false)] 5 .z .z)))))))), [.cell 4 31, .tmp 5], [.sc .int, .sl .jd], [.st .jd, .sc .bool], false, false, 153, 4, []⟩
def C99 (n : Nat) : Cal := ⟨99, F99.ps, F99.rs, F99.fr, fun a => f99 n a.1 a.2.1⟩
def cs99 (n : Nat) : List Cal := [C59, C63, C94, C95 n, C98 n, C101, C102]
theorem w99 (n x) : F99.W Tryz.f99 tabR (cs99 n) 0 x = o99_0 n (c99_1 n) x.1 x.2.1 := by kernel_rfl
theorem ok99 (n : Nat) : (C99 n).Ok Tryz.prog := okOf F99 Tryz.func99 htabR (cs := cs99 n) (by kernel_rfl) (mC ok59 <| mC ok63 <| mC ok94 <| mC (ok95 n) <| mC (ok98 n) <| mC ok101 <| mC ok102 <| mN) (fun x => ⟨0, w99 n x⟩)
-- tranship/rule.family
def o103_0 (k1 : Jd -> Int -> Int -> Int -> Int -> Int -> Int -> Int -> Int -> Int -> Int -> Tm -> Option (Fm × Bool)) (a0 : Jd) (a1 : Int) : Option (Fm × Bool) :=
  ifB a0.eq ( some ((Fm.mk 0 0 (Tm.mk 0 0 0 0 []) (Tm.mk 0 0 0 0 [])), false)) ( ifB (!decide (a0.a.kind = a1)) ( some ((Fm.mk 0 0 (Tm.mk 0 0 0 0 []) (Tm.mk 0 0 0 0 [])), false)) ( k1 a0 0 0 0 0 0 0 0 0 0 0 a0.a))
def o103_1 (q : Jd) (r s t u v w y z b c : Int) (p : Tm) : Option (Fm × Bool) :=
  atI p.kids 0 fun x1 => atI p.kids 1 fun x2 => (f102 (Fm.mk p.i p.j (Tm.mk x1.kind x1.i x1.j x1.n x1.kids) (Tm.mk x2.kind x2.i x2.j x2.n x2.kids))).bind fun x3 => some ((Fm.mk p.i p.j (Tm.mk x1.kind x1.i x1.j x1.n x1.kids) (Tm.mk x2.kind x2.i x2.j x2.n x2.kids)), (decide (q.i = x3)))
def c103_1 (q : Jd) (r s t u v w y z b c : Int) (p : Tm) : Option (Fm × Bool) :=
  o103_1 q r s t u v w y z b c p
def f103 (a0 : Jd) (a1 : Int) : Option (Fm × Bool) := o103_0 (c103_1) a0 a1
def F103 : Fn := ⟨103, (.n none [] 0 .z (.n none [] 0 .z (.n (some 1) [(2, .ps 0 .jd false), (4, .p 1 [.c, .c, .c, .c, .c, .c, .k, .c, .c, .c, .c, .k]), (6, .ps 2 .tm false)] 3 .z .z))), [.cell 4 107, .tmp 5], [.st .jd, .sc .int], [.st .fm, .sc .bool], false, false, 38, 3, []⟩
def C103 : Cal := ⟨103, F103.ps, F103.rs, F103.fr, fun a => f103 a.1 a.2.1⟩
def cs103 : List Cal := [C102]
theorem w103 (x) : F103.W Tryz.f103 tabR cs103 0 x = o103_0 (c103_1) x.1 x.2.1 := by kernel_rfl
theorem ok103 : C103.Ok Tryz.prog := okOf F103 Tryz.func103 htabR (cs := cs103) (by kernel_rfl) (mC ok102 <| mN) (fun x => ⟨0, w103 x⟩)
-- tranship/rule.paired
def o104_0 (n : Nat) (k1 : (List Jd) -> Int -> Int -> Int -> Int -> Int -> Int -> Int -> Int -> Int -> Int -> Int -> Int -> Int -> Int -> Int -> Int -> Int -> Int -> Int -> Int -> (List Tm) -> Int -> Int -> Int -> Int -> (List Tm) -> Option (Fm × Tm × Bool)) (a0 : List Jd) : Option (Fm × Tm × Bool) :=
  atI a0 1 fun x1 => (f59 x1 false).bind fun x2 => atI a0 0 fun x3 => atI a0 0 fun x4 => atI a0 1 fun x5 => ifB (!x2.2) ( some ((Fm.mk 0 0 (Tm.mk 0 0 0 0 []) (Tm.mk 0 0 0 0 [])), (Tm.mk 0 0 0 0 []), false)) ( atI a0 0 fun x6 => ifB x6.eq ( some ((Fm.mk 0 0 (Tm.mk 0 0 0 0 []) (Tm.mk 0 0 0 0 [])), (Tm.mk 0 0 0 0 []), false)) ( atI a0 2 fun x7 => atI a0 0 fun x8 => (f98 n (Tm.mk x5.u.kind x5.u.i x5.u.j x5.u.n x5.u.kids) x8.u).bind fun x9 => (f95 n x7 false x9 x2.1).bind fun x10 => ifB (!x10) ( some ((Fm.mk 0 0 (Tm.mk 0 0 0 0 []) (Tm.mk 0 0 0 0 [])), (Tm.mk 0 0 0 0 []), false)) ( k1 a0 0 0 0 0 0 0 0 0 0 0 0 0 0 0 x3.i x2.1 x4.a.kind x4.a.i x4.a.j x4.a.n x4.a.kids x5.u.kind x5.u.i x5.u.j x5.u.n x5.u.kids)))
def o104_1 (n : Nat) (p : List Jd) (g i j l o A B C D E G H I J q r s t u v : Int) (w : List Tm) (y z b c : Int) (d : List Tm) : Option (Fm × Tm × Bool) :=
  atI p 0 fun x11 => atI p 2 fun x12 => (f101 (Fm.mk q r (Tm.mk s t u v w) (Tm.mk y z b c d)) 7 [(Tm.mk x11.u.kind x11.u.i x11.u.j x11.u.n x11.u.kids), (Tm.mk x12.u.kind x12.u.i x12.u.j x12.u.n x12.u.kids)]).bind fun x13 => some ((Fm.mk q r (Tm.mk s t u v w) (Tm.mk y z b c d)), x13, true)
def c104_1 (n : Nat) (p : List Jd) (g i j l o A B C D E G H I J q r s t u v : Int) (w : List Tm) (y z b c : Int) (d : List Tm) : Option (Fm × Tm × Bool) :=
  o104_1 n p g i j l o A B C D E G H I J q r s t u v w y z b c d
def f104 (n : Nat) (a0 : List Jd) : Option (Fm × Tm × Bool) := o104_0 n (c104_1 n) a0
def F104 : Fn := ⟨104, (.n none [] 0 .z (.n none [] 0 .z (.n none [] 0 .z (.n (some 1) [(0, .one (.d .jd false)), (2, .p 0 [.c, .c, .c, .c, .c, .c, .k, .c, .c, .c, .c, .k]), (3, .p 1 [.c, .c, .c, .c, .k]), (7, .p 2 [.c, .c, .c, .c, .c, .c, .d .tm false, .c, .c, .c, .c, .d .tm false])] 3 .z .z)))), [.cell 2 107, .cell 3 29, .tmp 4], [.sl .jd], [.st .fm, .st .tm, .sc .bool], false, false, 67, 3, []⟩
def C104 (n : Nat) : Cal := ⟨104, F104.ps, F104.rs, F104.fr, fun a => f104 n a.1⟩
def cs104 (n : Nat) : List Cal := [C59, C95 n, C98 n, C101]
theorem w104 (n x) : F104.W Tryz.f104 tabR (cs104 n) 0 x = o104_0 n (c104_1 n) x.1 := by kernel_rfl
theorem ok104 (n : Nat) : (C104 n).Ok Tryz.prog := okOf F104 Tryz.func104 htabR (cs := cs104 n) (by kernel_rfl) (mC ok59 <| mC (ok95 n) <| mC (ok98 n) <| mC ok101 <| mN) (fun x => ⟨0, w104 n x⟩)
-- tranship/rule.under
def o124_0 (n : Nat) (a0 : Tm) (a1 : Int) : Option Tm :=
  (f93 n a0 1 a1).bind fun x1 => some x1
def f124 (n : Nat) (a0 : Tm) (a1 : Int) : Option Tm := o124_0 n a0 a1
def F124 : Fn := ⟨124, .z, [.cell 4 29], [.st .tm, .sc .int], [.st .tm], false, true, 8, 2, []⟩
def C124 (n : Nat) : Cal := ⟨124, F124.ps, F124.rs, F124.fr, fun a => f124 n a.1 a.2.1⟩
def cs124 (n : Nat) : List Cal := [C93 n]
theorem w124 (n x) : F124.W Tryz.f124 tabR (cs124 n) 0 x = o124_0 n x.1 x.2.1 := by kernel_rfl
theorem ok124 (n : Nat) : (C124 n).Ok Tryz.prog := okOf F124 Tryz.func124 htabR (cs := cs124 n) (by kernel_rfl) (mC (ok93 n) <| mN) (fun x => ⟨0, w124 n x⟩)
-- tranship/rule.reckoned
def o100_0 (n : Nat) (a0 : Int) (a1 : List Jd) : Option (Jd × Bool) :=
  atI a1 0 fun x1 => ifB (decide (a0 = (18 : Int))) ( atI a1 1 fun x2 => atI a1 1 fun x3 => atI a1 1 fun x4 => (f101 (Fm.mk x1.i x2.i (Tm.mk x1.a.kind x1.a.i x1.a.j x1.a.n x1.a.kids) (Tm.mk x3.a.kind x3.a.i x3.a.j x3.a.n x3.a.kids)) 4 [(Tm.mk x4.u.kind x4.u.i x4.u.j x4.u.n x4.u.kids)]).bind fun x5 => (f101 (Fm.mk x1.i x2.i (Tm.mk x1.a.kind x1.a.i x1.a.j x1.a.n x1.a.kids) (Tm.mk x3.a.kind x3.a.i x3.a.j x3.a.n x3.a.kids)) 5 [(Tm.mk x5.kind x5.i x5.j x5.n x5.kids), (Tm.mk x1.u.kind x1.u.i x1.u.j x1.u.n x1.u.kids)]).bind fun x6 => atI a1 1 fun x7 => (f98 n x7.u x1.u).bind fun x8 => (f98 n (Tm.mk x3.a.kind x3.a.i x3.a.j x3.a.n x3.a.kids) x1.u).bind fun x9 => (f94 x6 x8 x9 x2.i).bind fun x10 => ifB (!x1.eq) ( atI a1 1 fun x11 => some (x10, (!x11.eq))) ( some (x10, false))) ( ifB (decide (a0 = (19 : Int))) ( (f104 n a1).bind fun x12 => (f101 x12.1 8 [(Tm.mk x12.2.1.kind x12.2.1.i x12.2.1.j x12.2.1.n x12.2.1.kids)]).bind fun x13 => (f94 x13 x1.u x12.1.a x12.1.i).bind fun x14 => some (x14, x12.2.2)) ( ifB (decide (a0 = (20 : Int))) ( (f104 n a1).bind fun x15 => ifB (!x15.2.2) ( some ((Jd.mk false (Tm.mk 0 0 0 0 []) (Tm.mk 0 0 0 0 []) (Tm.mk 0 0 0 0 []) 0), false)) ( (f101 x15.1 9 [(Tm.mk x15.2.1.kind x15.2.1.i x15.2.1.j x15.2.1.n x15.2.1.kids)]).bind fun x16 => atI a1 2 fun x17 => (f98 n x15.1.b x1.u).bind fun x18 => (f94 x16 x17.u x18 x15.1.j).bind fun x19 => some (x19, true))) ( ifB (decide (a0 = (21 : Int))) ( (f103 x1 3).bind fun x20 => ifB (!x20.2) ( some ((Jd.mk false (Tm.mk 0 0 0 0 []) (Tm.mk 0 0 0 0 []) (Tm.mk 0 0 0 0 []) 0), false)) ( (f124 n x20.1.a 0).bind fun x21 => (f124 n x20.1.b 1).bind fun x22 => (f124 n x1.u 0).bind fun x23 => (f65 0).bind fun x24 => (f101 (Fm.mk x20.1.i x20.1.j (Tm.mk x21.kind x21.i x21.j x21.n x21.kids) (Tm.mk x22.kind x22.i x22.j x22.n x22.kids)) 5 [(Tm.mk x23.kind x23.i x23.j x23.n x23.kids), (Tm.mk x24.kind x24.i x24.j x24.n x24.kids)]).bind fun x25 => (f101 x20.1 4 [(Tm.mk x25.kind x25.i x25.j x25.n x25.kids)]).bind fun x26 => (f101 x20.1 3 ([] : List Tm)).bind fun x27 => (f102 x20.1).bind fun x28 => (f94 x1.u x26 x27 x28).bind fun x29 => some (x29, true))) ( ifB (decide (a0 = (22 : Int))) ( (f103 x1 6).bind fun x30 => ifB (!x30.2) ( some ((Jd.mk false (Tm.mk 0 0 0 0 []) (Tm.mk 0 0 0 0 []) (Tm.mk 0 0 0 0 []) 0), false)) ( (f101 x30.1 8 [(Tm.mk x1.u.kind x1.u.i x1.u.j x1.u.n x1.u.kids)]).bind fun x31 => (f101 x30.1 9 [(Tm.mk x1.u.kind x1.u.i x1.u.j x1.u.n x1.u.kids)]).bind fun x32 => (f101 x30.1 7 [(Tm.mk x31.kind x31.i x31.j x31.n x31.kids), (Tm.mk x32.kind x32.i x32.j x32.n x32.kids)]).bind fun x33 => (f101 x30.1 6 ([] : List Tm)).bind fun x34 => (f102 x30.1).bind fun x35 => (f94 x1.u x33 x34 x35).bind fun x36 => some (x36, true))) ( some ((Jd.mk false (Tm.mk 0 0 0 0 []) (Tm.mk 0 0 0 0 []) (Tm.mk 0 0 0 0 []) 0), false))))))
def f100 (n : Nat) (a0 : Int) (a1 : List Jd) : Option (Jd × Bool) := o100_0 n a0 a1
def F100 : Fn := ⟨100, .z, [.cell 4 31, .tmp 5], [.sc .int, .sl .jd], [.st .jd, .sc .bool], false, false, 193, 2, []⟩
def C100 (n : Nat) : Cal := ⟨100, F100.ps, F100.rs, F100.fr, fun a => f100 n a.1 a.2.1⟩
def cs100 (n : Nat) : List Cal := [C65, C94, C98 n, C101, C102, C103, C104 n, C124 n]
theorem w100 (n x) : F100.W Tryz.f100 tabR (cs100 n) 0 x = o100_0 n x.1 x.2.1 := by kernel_rfl
theorem ok100 (n : Nat) : (C100 n).Ok Tryz.prog := okOf F100 Tryz.func100 htabR (cs := cs100 n) (by kernel_rfl) (mC ok65 <| mC ok94 <| mC (ok98 n) <| mC ok101 <| mC ok102 <| mC ok103 <| mC (ok104 n) <| mC (ok124 n) <| mN) (fun x => ⟨0, w100 n x⟩)
-- tranship/rule.alike
def o67_0 (n : Nat) (k1 : Bool -> Int -> Int -> Int -> Int -> Int -> Int -> Int -> Int -> Int -> Int -> Int -> Int -> Int -> Jd -> Tm -> Option (Jd × Bool)) (k2 : Int -> (List Jd) -> Bool -> Int -> Int -> Int -> Int -> Int -> Int -> Int -> Int -> Int -> Int -> Int -> Int -> Int -> Bool -> Option (Jd × Bool)) (a0 : Int) (a1 : List Jd) : Option (Jd × Bool) :=
  atI a1 0 fun x1 => ifB (decide (a0 = (13 : Int))) ( (f94 x1.u x1.u x1.a x1.i).bind fun x2 => some (x2, (!x1.eq))) ( ifB (decide (a0 = (14 : Int))) ( (f94 x1.v x1.u x1.a x1.i).bind fun x3 => some (x3, x1.eq)) ( ifB (decide (a0 = (15 : Int))) ( atI a1 1 fun x4 => (f94 x1.u x4.v x1.a x1.i).bind fun x5 => ifB x1.eq ( (f95 n x4 true x1.a x1.i).bind fun x6 => ifB x6 ( (f96 n x1.v x4.u).bind fun x7 => some (x5, x7)) ( some (x5, false))) ( some (x5, false))) ( ifB (decide (a0 = (16 : Int))) ( atI a1 1 fun x8 => (f94 x1.u x1.v x8.v x1.i).bind fun x9 => ifB x1.eq ( atI a1 1 fun x10 => (f97 n x1 x10).bind fun x11 => some (x9, x11)) ( some (x9, false))) ( ifB (decide (a0 = (17 : Int))) ( ifB x1.eq ( some ((Jd.mk false (Tm.mk 0 0 0 0 []) (Tm.mk 0 0 0 0 []) (Tm.mk 0 0 0 0 []) 0), false)) ( ifB (!decide (x1.a.kind = (10 : Int))) ( some ((Jd.mk false (Tm.mk 0 0 0 0 []) (Tm.mk 0 0 0 0 []) (Tm.mk 0 0 0 0 []) 0), false)) ( ifB (!decide (x1.a.i = x1.i)) ( some ((Jd.mk false (Tm.mk 0 0 0 0 []) (Tm.mk 0 0 0 0 []) (Tm.mk 0 0 0 0 []) 0), false)) ( k1 false 0 0 0 0 0 0 0 0 0 0 0 0 0 x1 x1.a)))) ( ifB (decide (a0 = (23 : Int))) ( atI a1 1 fun x12 => (f98 n x12.u x1.u).bind fun x13 => (f98 n x12.u x1.v).bind fun x14 => (f98 n x12.a x1.u).bind fun x15 => (f94 x13 x14 x15 x12.i).bind fun x16 => ifB x1.eq ( some (x16, (!x12.eq))) ( some (x16, false))) ( ifB (decide (a0 = (24 : Int))) ( atI a1 1 fun x17 => (f94 x1.u x17.u x1.a x1.i).bind fun x18 => ifB (!x1.eq) ( ifB (decide (x1.a.kind = (10 : Int))) ( ifB (decide (x1.a.i = x1.i)) ( (f95 n x17 false x1.a x1.i).bind fun x19 => some (x18, x19)) ( some (x18, false))) ( some (x18, false))) ( some (x18, false))) ( ifB (decide (a0 = (25 : Int))) ( k2 a0 a1 false 0 0 0 0 0 0 0 0 0 0 0 0 0 (decide (a0 = (25 : Int)))) ( ifB (decide (a0 = (26 : Int))) ( k2 a0 a1 false 0 0 0 0 0 0 0 0 0 0 0 0 0 (decide (a0 = (26 : Int)))) ( ifB (decide (a0 = (27 : Int))) ( k2 a0 a1 false 0 0 0 0 0 0 0 0 0 0 0 0 0 (decide (a0 = (27 : Int)))) ( k2 a0 a1 false 0 0 0 0 0 0 0 0 0 0 0 0 0 (decide (a0 = (28 : Int)))))))))))))
def o67_1 (n : Nat) (p : Bool) (q r s t u v w y z b c d g : Int) (o : Jd) (i : Tm) : Option (Jd × Bool) :=
  atI i.kids 1 fun x20 => atI i.kids 2 fun x21 => atI i.kids 0 fun x22 => (f94 x20 x21 x22 o.i).bind fun x23 => some (x23, true)
def o67_2 (n : Nat) (j : Int) (l : List Jd) (p : Bool) (q r s t u v w y z b c d g : Int) (A : Bool) : Option (Jd × Bool) :=
  ifB A ( (f99 n j l).bind fun x24 => some (x24.1, x24.2)) ( (f100 n j l).bind fun x25 => some (x25.1, x25.2))
def c67_1 (n : Nat) (p : Bool) (q r s t u v w y z b c d g : Int) (o : Jd) (i : Tm) : Option (Jd × Bool) :=
  o67_1 n p q r s t u v w y z b c d g o i
def c67_2 (n : Nat) (j : Int) (l : List Jd) (p : Bool) (q r s t u v w y z b c d g : Int) (A : Bool) : Option (Jd × Bool) :=
  o67_2 n j l p q r s t u v w y z b c d g A
def f67 (n : Nat) (a0 : Int) (a1 : List Jd) : Option (Jd × Bool) := o67_0 n (c67_1 n) (c67_2 n) a0 a1
def F67 : Fn := ⟨67, (.n none [] 0 .z (.n none [] 0 .z (.n none [] 0 (.n none [] 0 .z (.n none [] 0 (.n none [] 0 .z (.n none [] 0 .z (.n none [] 0 .z (.n none [] 0 .z (.n none [] 0 .z (.n none [] 0 .z (.n none [] 0 .z (.n none [] 0 .z (.n none [] 0 .z (.n none [] 0 (.n none [] 0 .z (.n (some 1) [(4, .p 0 [.c, .c, .c, .c, .c, .k, .c, .c, .c, .c, .k, .c, .c, .c, .c, .k, .c]), (6, .ps 1 .jd false), (8, .ps 2 .tm false)] 3 .z .z)) (.n none [] 0 .z (.n none [] 0 .z (.n none [] 0 .z (.n none [] 0 .z (.n (some 2) [(0, .one .c), (1, .one (.d .jd false)), (4, .p 0 [.c, .c, .c, .c, .c, .k, .c, .c, .c, .c, .k, .c, .c, .c, .c, .k, .c]), (198, .one .c)] 1 .z .z))))))))))))))) .z)) .z))), [.cell 4 31, .tmp 5], [.sc .int, .sl .jd], [.st .jd, .sc .bool], false, false, 213, 4, []⟩
def C67 (n : Nat) : Cal := ⟨67, F67.ps, F67.rs, F67.fr, fun a => f67 n a.1 a.2.1⟩
def cs67 (n : Nat) : List Cal := [C94, C95 n, C96 n, C97 n, C98 n, C99 n, C100 n]
theorem w67 (n x) : F67.W Tryz.f67 tabR (cs67 n) 0 x = o67_0 n (c67_1 n) (c67_2 n) x.1 x.2.1 := by kernel_rfl
theorem ok67 (n : Nat) : (C67 n).Ok Tryz.prog := okOf F67 Tryz.func67 htabR (cs := cs67 n) (by kernel_rfl) (mC ok94 <| mC (ok95 n) <| mC (ok96 n) <| mC (ok97 n) <| mC (ok98 n) <| mC (ok99 n) <| mC (ok100 n) <| mN) (fun x => ⟨0, w67 n x⟩)
-- tranship/rule.typing
def o68_0 (n : Nat) (k1 : Int -> (List Jd) -> Bool -> Int -> Int -> Int -> Int -> Int -> Int -> Int -> Int -> Int -> Int -> Int -> Int -> Int -> Jd -> Int -> Bool -> Option (Jd × Bool)) (a0 : Int) (a1 : List Jd) : Option (Jd × Bool) :=
  atI a1 0 fun x1 => ifB (decide (a0 = (3 : Int))) ( k1 a0 a1 false 0 0 0 0 0 0 0 0 0 0 0 0 0 x1 a0 (decide (a0 = (3 : Int)))) ( k1 a0 a1 false 0 0 0 0 0 0 0 0 0 0 0 0 0 x1 a0 (decide (a0 = (6 : Int))))
def o68_1 (n : Nat) (k2 : Bool -> Int -> Int -> Int -> Int -> Int -> Int -> Int -> Int -> Int -> Int -> Int -> Int -> Int -> Bool -> Bool -> Int -> Int -> Int -> Int -> Int -> Int -> (List Tm) -> Int -> Int -> Int -> Int -> (List Tm) -> Int -> Option (Jd × Bool)) (k3 : (List Jd) -> Bool -> Int -> Int -> Int -> Int -> Int -> Int -> Int -> Int -> Int -> Int -> Int -> Int -> Int -> Jd -> Fm -> Option (Jd × Bool)) (k4 : Int -> (List Jd) -> Bool -> Int -> Int -> Int -> Int -> Int -> Int -> Int -> Int -> Int -> Int -> Int -> Int -> Int -> Jd -> Int -> Bool -> Option (Jd × Bool)) (o : Int) (q : List Jd) (r : Bool) (s t u v w y z b c d g i j : Int) (p : Jd) (l : Int) (O : Bool) : Option (Jd × Bool) :=
  ifB O ( (f59 p false).bind fun x2 => atI q 1 fun x3 => (f59 x3 false).bind fun x4 => atI q 1 fun x5 => ifB (decide (o = (6 : Int))) ( k2 r s t u v w y z b c d g i j x2.2 x4.2 x2.1 x4.1 p.u.kind p.u.i p.u.j p.u.n p.u.kids x5.u.kind x5.u.i x5.u.j x5.u.n x5.u.kids 6) ( k2 r s t u v w y z b c d g i j x2.2 x4.2 x2.1 x4.1 p.u.kind p.u.i p.u.j p.u.n p.u.kids x5.u.kind x5.u.i x5.u.j x5.u.n x5.u.kids 3)) ( ifB (decide (l = (4 : Int))) ( (f59 p false).bind fun x6 => atI q 1 fun x7 => atI q 1 fun x8 => atI q 1 fun x9 => (f101 (Fm.mk x6.1 x7.i (Tm.mk p.u.kind p.u.i p.u.j p.u.n p.u.kids) (Tm.mk x8.a.kind x8.a.i x8.a.j x8.a.n x8.a.kids)) 4 [(Tm.mk x9.u.kind x9.u.i x9.u.j x9.u.n x9.u.kids)]).bind fun x10 => (f101 (Fm.mk x6.1 x7.i (Tm.mk p.u.kind p.u.i p.u.j p.u.n p.u.kids) (Tm.mk x8.a.kind x8.a.i x8.a.j x8.a.n x8.a.kids)) 3 ([] : List Tm)).bind fun x11 => (f102 (Fm.mk x6.1 x7.i (Tm.mk p.u.kind p.u.i p.u.j p.u.n p.u.kids) (Tm.mk x8.a.kind x8.a.i x8.a.j x8.a.n x8.a.kids))).bind fun x12 => ifB x6.2 ( atI q 1 fun x13 => some ((Jd.mk false (Tm.mk x10.kind x10.i x10.j x10.n x10.kids) (Tm.mk 0 0 0 0 []) (Tm.mk x11.kind x11.i x11.j x11.n x11.kids) x12), (!x13.eq))) ( some ((Jd.mk false (Tm.mk x10.kind x10.i x10.j x10.n x10.kids) (Tm.mk 0 0 0 0 []) (Tm.mk x11.kind x11.i x11.j x11.n x11.kids) x12), false))) ( ifB (decide (l = (5 : Int))) ( (f103 p 3).bind fun x14 => ifB (!x14.2) ( some ((Jd.mk false (Tm.mk 0 0 0 0 []) (Tm.mk 0 0 0 0 []) (Tm.mk 0 0 0 0 []) 0), false)) ( atI q 1 fun x15 => (f95 n x15 false x14.1.a x14.1.i).bind fun x16 => ifB (!x16) ( some ((Jd.mk false (Tm.mk 0 0 0 0 []) (Tm.mk 0 0 0 0 []) (Tm.mk 0 0 0 0 []) 0), false)) ( k3 q r s t u v w y z b c d g i j p x14.1))) ( ifB (decide (l = (7 : Int))) ( (f104 n q).bind fun x17 => (f101 x17.1 6 ([] : List Tm)).bind fun x18 => (f102 x17.1).bind fun x19 => some ((Jd.mk false (Tm.mk x17.2.1.kind x17.2.1.i x17.2.1.j x17.2.1.n x17.2.1.kids) (Tm.mk 0 0 0 0 []) (Tm.mk x18.kind x18.i x18.j x18.n x18.kids) x19), x17.2.2)) ( ifB (decide (l = (8 : Int))) ( k4 o q r s t u v w y z b c d g i j p l (decide (l = (8 : Int)))) ( k4 o q r s t u v w y z b c d g i j p l (decide (l = (9 : Int))))))))
def o68_2 (n : Nat) (r : Bool) (s t u v w y z b c d g i j : Int) (P Q : Bool) (A B C D E G : Int) (H : List Tm) (I J K L : Int) (M : List Tm) (S : Int) : Option (Jd × Bool) :=
  (f101 (Fm.mk A B (Tm.mk C D E G H) (Tm.mk I J K L M)) S ([] : List Tm)).bind fun x20 => (f102 (Fm.mk A B (Tm.mk C D E G H) (Tm.mk I J K L M))).bind fun x21 => (f63 x21).bind fun x22 => (f102 (Fm.mk A B (Tm.mk C D E G H) (Tm.mk I J K L M))).bind fun x23 => ckI (x23 + (1 : Int)) <| ifB P ( some ((Jd.mk false (Tm.mk x20.kind x20.i x20.j x20.n x20.kids) (Tm.mk 0 0 0 0 []) (Tm.mk x22.kind x22.i x22.j x22.n x22.kids) (x23 + (1 : Int))), Q)) ( some ((Jd.mk false (Tm.mk x20.kind x20.i x20.j x20.n x20.kids) (Tm.mk 0 0 0 0 []) (Tm.mk x22.kind x22.i x22.j x22.n x22.kids) (x23 + (1 : Int))), false))
def o68_3 (n : Nat) (q : List Jd) (r : Bool) (s t u v w y z b c d g i j : Int) (p : Jd) (N : Fm) : Option (Jd × Bool) :=
  atI q 1 fun x24 => (f101 N 5 [(Tm.mk p.u.kind p.u.i p.u.j p.u.n p.u.kids), (Tm.mk x24.u.kind x24.u.i x24.u.j x24.u.n x24.u.kids)]).bind fun x25 => atI q 1 fun x26 => (f98 n N.b x26.u).bind fun x27 => some ((Jd.mk false (Tm.mk x25.kind x25.i x25.j x25.n x25.kids) (Tm.mk 0 0 0 0 []) (Tm.mk x27.kind x27.i x27.j x27.n x27.kids) N.j), true)
def o68_4 (n : Nat) (k5 : (List Jd) -> Bool -> Int -> Int -> Int -> Int -> Int -> Int -> Int -> Int -> Int -> Int -> Int -> Int -> Int -> Jd -> Bool -> Option (Jd × Bool)) (o : Int) (q : List Jd) (r : Bool) (s t u v w y z b c d g i j : Int) (p : Jd) (l : Int) (T : Bool) : Option (Jd × Bool) :=
  ifB T ( (f103 p 6).bind fun x28 => ifB (!x28.2) ( some ((Jd.mk false (Tm.mk 0 0 0 0 []) (Tm.mk 0 0 0 0 []) (Tm.mk 0 0 0 0 []) 0), false)) ( ifB (decide (o = (8 : Int))) ( (f101 x28.1 8 [(Tm.mk p.u.kind p.u.i p.u.j p.u.n p.u.kids)]).bind fun x29 => some ((Jd.mk false (Tm.mk x29.kind x29.i x29.j x29.n x29.kids) (Tm.mk 0 0 0 0 []) (Tm.mk x28.1.a.kind x28.1.a.i x28.1.a.j x28.1.a.n x28.1.a.kids) x28.1.i), true)) ( (f101 x28.1 9 [(Tm.mk p.u.kind p.u.i p.u.j p.u.n p.u.kids)]).bind fun x30 => (f101 x28.1 8 [(Tm.mk p.u.kind p.u.i p.u.j p.u.n p.u.kids)]).bind fun x31 => (f98 n x28.1.b x31).bind fun x32 => some ((Jd.mk false (Tm.mk x30.kind x30.i x30.j x30.n x30.kids) (Tm.mk 0 0 0 0 []) (Tm.mk x32.kind x32.i x32.j x32.n x32.kids) x28.1.j), true)))) ( ifB (decide (l = (10 : Int))) ( ifB (!p.eq) ( atI q 1 fun x33 => (f95 n x33 false p.a p.i).bind fun x34 => k5 q r s t u v w y z b c d g i j p x34) ( k5 q r s t u v w y z b c d g i j p false)) ( ifB (decide (l = (11 : Int))) ( (f105 11 p.i 0 0 [(Tm.mk p.a.kind p.a.i p.a.j p.a.n p.a.kids), (Tm.mk p.u.kind p.u.i p.u.j p.u.n p.u.kids)]).bind fun x35 => (f105 10 p.i 0 0 [(Tm.mk p.a.kind p.a.i p.a.j p.a.n p.a.kids), (Tm.mk p.u.kind p.u.i p.u.j p.u.n p.u.kids), (Tm.mk p.u.kind p.u.i p.u.j p.u.n p.u.kids)]).bind fun x36 => some ((Jd.mk false (Tm.mk x35.kind x35.i x35.j x35.n x35.kids) (Tm.mk 0 0 0 0 []) (Tm.mk x36.kind x36.i x36.j x36.n x36.kids) p.i), (!p.eq))) ( ifB (decide (l = (12 : Int))) ( atI q 1 fun x37 => ifB (!p.eq) ( atI q 1 fun x38 => (f97 n p x38).bind fun x39 => some ((Jd.mk false (Tm.mk p.u.kind p.u.i p.u.j p.u.n p.u.kids) (Tm.mk 0 0 0 0 []) (Tm.mk x37.v.kind x37.v.i x37.v.j x37.v.n x37.v.kids) p.i), x39)) ( some ((Jd.mk false (Tm.mk p.u.kind p.u.i p.u.j p.u.n p.u.kids) (Tm.mk 0 0 0 0 []) (Tm.mk x37.v.kind x37.v.i x37.v.j x37.v.n x37.v.kids) p.i), false))) ( some ((Jd.mk false (Tm.mk 0 0 0 0 []) (Tm.mk 0 0 0 0 []) (Tm.mk 0 0 0 0 []) 0), false)))))
def o68_5 (n : Nat) (q : List Jd) (r : Bool) (s t u v w y z b c d g i j : Int) (p : Jd) (U : Bool) : Option (Jd × Bool) :=
  atI q 1 fun x40 => (f105 10 p.i 0 0 [(Tm.mk p.a.kind p.a.i p.a.j p.a.n p.a.kids), (Tm.mk p.u.kind p.u.i p.u.j p.u.n p.u.kids), (Tm.mk x40.u.kind x40.u.i x40.u.j x40.u.n x40.u.kids)]).bind fun x41 => (f63 p.i).bind fun x42 => ckI (p.i + (1 : Int)) <| some ((Jd.mk false (Tm.mk x41.kind x41.i x41.j x41.n x41.kids) (Tm.mk 0 0 0 0 []) (Tm.mk x42.kind x42.i x42.j x42.n x42.kids) (p.i + (1 : Int))), U)
def c68_2 (n : Nat) (r : Bool) (s t u v w y z b c d g i j : Int) (P Q : Bool) (A B C D E G : Int) (H : List Tm) (I J K L : Int) (M : List Tm) (S : Int) : Option (Jd × Bool) :=
  o68_2 n r s t u v w y z b c d g i j P Q A B C D E G H I J K L M S
def c68_3 (n : Nat) (q : List Jd) (r : Bool) (s t u v w y z b c d g i j : Int) (p : Jd) (N : Fm) : Option (Jd × Bool) :=
  o68_3 n q r s t u v w y z b c d g i j p N
def c68_5 (n : Nat) (q : List Jd) (r : Bool) (s t u v w y z b c d g i j : Int) (p : Jd) (U : Bool) : Option (Jd × Bool) :=
  o68_5 n q r s t u v w y z b c d g i j p U
def c68_4 (n : Nat) (o : Int) (q : List Jd) (r : Bool) (s t u v w y z b c d g i j : Int) (p : Jd) (l : Int) (T : Bool) : Option (Jd × Bool) :=
  o68_4 n (c68_5 n) o q r s t u v w y z b c d g i j p l T
def c68_1 (n : Nat) (o : Int) (q : List Jd) (r : Bool) (s t u v w y z b c d g i j : Int) (p : Jd) (l : Int) (O : Bool) : Option (Jd × Bool) :=
  o68_1 n (c68_2 n) (c68_3 n) (c68_4 n) o q r s t u v w y z b c d g i j p l O
def f68 (n : Nat) (a0 : Int) (a1 : List Jd) : Option (Jd × Bool) := o68_0 n (c68_1 n) a0 a1
def F68 : Fn := ⟨68, (.n none [] 0 .z (.n none [] 0 .z (.n none [] 0 (.n none [] 0 .z (.n none [] 0 (.n (some 1) [(0, .one .c), (1, .one (.d .jd false)), (4, .p 0 [.c, .c, .c, .c, .c, .k, .c, .c, .c, .c, .k, .c, .c, .c, .c, .k, .c]), (6, .ps 1 .jd false), (27, .one .c), (28, .one .c)] 2 .z (.n none [] 0 (.n none [] 0 .z (.n none [] 0 .z (.n none [] 0 .z (.n none [] 0 .z (.n (some 2) [(4, .p 0 [.c, .c, .c, .c, .c, .k, .c, .c, .c, .c, .k, .c, .c, .c, .c, .k, .c]), (8, .one .c), (10, .one .c), (11, .p 1 [.c, .c, .c, .c, .c, .c, .d .tm false, .c, .c, .c, .c, .d .tm false]), (12, .one .c)] 2 .z .z))))) (.n none [] 0 .z (.n none [] 0 .z (.n none [] 0 .z (.n none [] 0 (.n none [] 0 .z (.n (some 3) [(1, .one (.d .jd false)), (4, .p 0 [.c, .c, .c, .c, .c, .k, .c, .c, .c, .c, .k, .c, .c, .c, .c, .k, .c]), (6, .ps 1 .jd false), (16, .ps 2 .fm false)] 3 .z .z)) (.n none [] 0 .z (.n none [] 0 .z (.n (some 4) [(0, .one .c), (1, .one (.d .jd false)), (4, .p 0 [.c, .c, .c, .c, .c, .k, .c, .c, .c, .c, .k, .c, .c, .c, .c, .k, .c]), (6, .ps 1 .jd false), (27, .one .c), (162, .one .c)] 2 .z (.n none [] 0 .z (.n none [] 0 .z (.n none [] 0 (.n (some 5) [(1, .one (.d .jd false)), (4, .p 0 [.c, .c, .c, .c, .c, .k, .c, .c, .c, .c, .k, .c, .c, .c, .c, .k, .c]), (6, .ps 1 .jd false), (23, .one .c)] 2 .z .z) .z)))))))))))) .z)) .z))), [.cell 4 31, .tmp 5], [.sc .int, .sl .jd], [.st .jd, .sc .bool], false, false, 284, 7, []⟩
def C68 (n : Nat) : Cal := ⟨68, F68.ps, F68.rs, F68.fr, fun a => f68 n a.1 a.2.1⟩
def cs68 (n : Nat) : List Cal := [C59, C63, C95 n, C97 n, C98 n, C101, C102, C103, C104 n, C105]
theorem w68 (n x) : F68.W Tryz.f68 tabR (cs68 n) 0 x = o68_0 n (c68_1 n) x.1 x.2.1 := by kernel_rfl
theorem ok68 (n : Nat) : (C68 n).Ok Tryz.prog := okOf F68 Tryz.func68 htabR (cs := cs68 n) (by kernel_rfl) (mC ok59 <| mC ok63 <| mC (ok95 n) <| mC (ok97 n) <| mC (ok98 n) <| mC ok101 <| mC ok102 <| mC ok103 <| mC (ok104 n) <| mC ok105 <| mN) (fun x => ⟨0, w68 n x⟩)
-- tranship/rule.conclude
def o34_0 (n : Nat) (a0 : List Ent) (a1 a2 : Int) (a3 : List Jd) : Option (Jd × Bool) :=
  ifB (decide (a1 = (1 : Int))) ( (f63 a2).bind fun x1 => (f63 (wrI (a2 + (1 : Int)))).bind fun x2 => ifB (decide ((0 : Int) ≤ a2)) ( some ((Jd.mk false (Tm.mk x1.kind x1.i x1.j x1.n x1.kids) (Tm.mk 0 0 0 0 []) (Tm.mk x2.kind x2.i x2.j x2.n x2.kids) (wrI (a2 + (2 : Int)))), (decide (a2 ≤ (900 : Int))))) ( some ((Jd.mk false (Tm.mk x1.kind x1.i x1.j x1.n x1.kids) (Tm.mk 0 0 0 0 []) (Tm.mk x2.kind x2.i x2.j x2.n x2.kids) (wrI (a2 + (2 : Int)))), false))) ( ifB (decide (a1 = (2 : Int))) ( (f64 n a0 a2).bind fun x3 => (f65 a2).bind fun x4 => some ((Jd.mk false (Tm.mk x4.kind x4.i x4.j x4.n x4.kids) (Tm.mk 0 0 0 0 []) (Tm.mk x3.1.kind x3.1.i x3.1.j x3.1.n x3.1.kids) x3.2.1), x3.2.2)) ( (f66 a1).bind fun x5 => ifB x5 ( (f67 n a1 a3).bind fun x6 => some (x6.1, x6.2)) ( (f68 n a1 a3).bind fun x7 => some (x7.1, x7.2))))
def f34 (n : Nat) (a0 : List Ent) (a1 a2 : Int) (a3 : List Jd) : Option (Jd × Bool) := o34_0 n a0 a1 a2 a3
def F34 : Fn := ⟨34, .z, [.cell 8 31, .tmp 9], [.sl .ent, .sc .int, .sc .int, .sl .jd], [.st .jd, .sc .bool], false, false, 57, 2, []⟩
def C34 (n : Nat) : Cal := ⟨34, F34.ps, F34.rs, F34.fr, fun a => f34 n a.1 a.2.1 a.2.2.1 a.2.2.2.1⟩
def cs34 (n : Nat) : List Cal := [C63, C64 n, C65, C66, C67 n, C68 n]
theorem w34 (n x) : F34.W Tryz.f34 tabRw (cs34 n) 0 x = o34_0 n x.1 x.2.1 x.2.2.1 x.2.2.2.1 := by kernel_rfl
theorem ok34 (n : Nat) : (C34 n).Ok Tryz.prog := okOf F34 Tryz.func34 htabRw (cs := cs34 n) (by kernel_rfl) (mC ok63 <| mC (ok64 n) <| mC ok65 <| mC ok66 <| mC (ok67 n) <| mC (ok68 n) <| mN) (fun x => ⟨0, w34 n x⟩)
-- tranship/rule.Of
def o9_0 (n : Nat) (k1 : (List Ent) -> Int -> Int -> (List Jd) -> Bool -> Int -> Int -> Int -> Int -> Int -> Int -> Int -> Int -> Int -> Int -> Int -> Int -> Int -> Option (Jd × Bool)) (a0 : List Ent) (a1 a2 : Int) (a3 : List Jd) : Option (Jd × Bool) :=
  (f29 n a0).bind fun x1 => ifB (!x1) ( some ((Jd.mk false (Tm.mk 0 0 0 0 []) (Tm.mk 0 0 0 0 []) (Tm.mk 0 0 0 0 []) 0), false)) ( (f30 a1).bind fun x2 => ifB (decide (x2 < (0 : Int))) ( some ((Jd.mk false (Tm.mk 0 0 0 0 []) (Tm.mk 0 0 0 0 []) (Tm.mk 0 0 0 0 []) 0), false)) ( (f30 a1).bind fun x3 => ifB (!decide (x3 = (a3.length : Int))) ( some ((Jd.mk false (Tm.mk 0 0 0 0 []) (Tm.mk 0 0 0 0 []) (Tm.mk 0 0 0 0 []) 0), false)) ( k1 a0 a1 a2 a3 false 0 0 0 0 0 0 0 0 0 0 0 0 0)))
def o9_1 (n : Nat) (k2 : (List Ent) -> Int -> Int -> (List Jd) -> Bool -> Int -> Int -> Int -> Int -> Int -> Int -> Int -> Int -> Int -> Int -> Int -> Int -> Int -> (List Jd) -> Int -> Int -> Option (Jd × Bool)) (p : List Ent) (l o : Int) (q : List Jd) (r : Bool) (s t u v w y z b c d g i j : Int) : Option (Jd × Bool) :=
  k2 p l o q r s t u v w y z b c d g i j q (q.length : Int) 0
def o9_2 (n : Nat) (k3 : (List Ent) -> Int -> Int -> (List Jd) -> Bool -> Int -> Int -> Int -> Int -> Int -> Int -> Int -> Int -> Int -> Int -> Int -> Int -> Int -> Jd -> Int -> (List Jd) -> Int -> Int -> Option (Jd × Bool)) (k4 : Bool -> Int -> Int -> Int -> Int -> Int -> Int -> Int -> Int -> Int -> Int -> Int -> Int -> Int -> Jd -> Option (Jd × Bool)) (p : List Ent) (l o : Int) (q : List Jd) (r : Bool) (s t u v w y z b c d g i j : Int) (B : List Jd) (C A : Int) : Option (Jd × Bool) :=
  ifB (decide (A < C)) ( atI B A fun x4 => (f31 l A).bind fun x5 => ifB x5 ( ckI ((p.length : Int) + (1 : Int)) <| atI q 0 fun x6 => (f32 l x6).bind fun x7 => ifB (!x7.2) ( some ((Jd.mk false (Tm.mk 0 0 0 0 []) (Tm.mk 0 0 0 0 []) (Tm.mk 0 0 0 0 []) 0), false)) ( k3 p l o q r s t u v w y z b c d g i j x4 ((p.length : Int) + (1 : Int)) B C A)) ( k3 p l o q r s t u v w y z b c d g i j x4 (p.length : Int) B C A)) ( (f34 n p l o q).bind fun x8 => ifB (!x8.2) ( some ((Jd.mk false (Tm.mk 0 0 0 0 []) (Tm.mk 0 0 0 0 []) (Tm.mk 0 0 0 0 []) 0), false)) ( ifB (decide ((1000 : Int) < x8.1.i)) ( some ((Jd.mk false (Tm.mk 0 0 0 0 []) (Tm.mk 0 0 0 0 []) (Tm.mk 0 0 0 0 []) 0), false)) ( k4 r s t u v w y z b c d g i j x8.1)))
def o9_3 (n : Nat) (k2 : (List Ent) -> Int -> Int -> (List Jd) -> Bool -> Int -> Int -> Int -> Int -> Int -> Int -> Int -> Int -> Int -> Int -> Int -> Int -> Int -> (List Jd) -> Int -> Int -> Option (Jd × Bool)) (p : List Ent) (l o : Int) (q : List Jd) (r : Bool) (s t u v w y z b c d g i j : Int) (E : Jd) (G : Int) (B : List Jd) (C A : Int) : Option (Jd × Bool) :=
  (f33 n E G).bind fun x9 => ifB (!x9) ( some ((Jd.mk false (Tm.mk 0 0 0 0 []) (Tm.mk 0 0 0 0 []) (Tm.mk 0 0 0 0 []) 0), false)) ( ckI (A + (1 : Int)) <| k2 p l o q r s t u v w y z b c d g i j B C (A + (1 : Int)))
def o9_4 (n : Nat) (r : Bool) (s t u v w y z b c d g i j : Int) (D : Jd) : Option (Jd × Bool) :=
  (f35 n D.u).bind fun x10 => (f35 n D.v).bind fun x11 => (f35 n D.a).bind fun x12 => some ((Jd.mk D.eq (Tm.mk x10.kind x10.i x10.j x10.n x10.kids) (Tm.mk x11.kind x11.i x11.j x11.n x11.kids) (Tm.mk x12.kind x12.i x12.j x12.n x12.kids) D.i), true)
def c9_1 (n : Nat) (k2 : (List Ent) -> Int -> Int -> (List Jd) -> Bool -> Int -> Int -> Int -> Int -> Int -> Int -> Int -> Int -> Int -> Int -> Int -> Int -> Int -> (List Jd) -> Int -> Int -> Option (Jd × Bool)) (p : List Ent) (l o : Int) (q : List Jd) (r : Bool) (s t u v w y z b c d g i j : Int) : Option (Jd × Bool) :=
  o9_1 n k2 p l o q r s t u v w y z b c d g i j
def c9_3 (n : Nat) (k2 : (List Ent) -> Int -> Int -> (List Jd) -> Bool -> Int -> Int -> Int -> Int -> Int -> Int -> Int -> Int -> Int -> Int -> Int -> Int -> Int -> (List Jd) -> Int -> Int -> Option (Jd × Bool)) (p : List Ent) (l o : Int) (q : List Jd) (r : Bool) (s t u v w y z b c d g i j : Int) (E : Jd) (G : Int) (B : List Jd) (C A : Int) : Option (Jd × Bool) :=
  o9_3 n k2 p l o q r s t u v w y z b c d g i j E G B C A
def c9_4 (n : Nat) (r : Bool) (s t u v w y z b c d g i j : Int) (D : Jd) : Option (Jd × Bool) :=
  o9_4 n r s t u v w y z b c d g i j D
def l9_2 (n : Nat) : Nat → (List Ent) -> Int -> Int -> (List Jd) -> Bool -> Int -> Int -> Int -> Int -> Int -> Int -> Int -> Int -> Int -> Int -> Int -> Int -> Int -> (List Jd) -> Int -> Int -> Option (Jd × Bool)
  | 0, _, _, _, _, _, _, _, _, _, _, _, _, _, _, _, _, _, _, _, _, _ => none
  | m + 1, p, l, o, q, r, s, t, u, v, w, y, z, b, c, d, g, i, j, B, C, A => o9_2 n (c9_3 n (l9_2 n m)) (c9_4 n) p l o q r s t u v w y z b c d g i j B C A
def f9 (n : Nat) (a0 : List Ent) (a1 a2 : Int) (a3 : List Jd) : Option (Jd × Bool) := o9_0 n (c9_1 n (l9_2 n n)) a0 a1 a2 a3
def F9 : Fn := ⟨9, (.n none [] 0 .z (.n (some 1) [(0, .one (.d .ent false)), (1, .one .c), (2, .one .c), (3, .one (.d .jd false)), (8, .p 0 [.c, .c, .c, .c, .c, .k, .c, .c, .c, .c, .k, .c, .c, .c, .c, .k, .c])] 1 .z (.n none [] 0 (.n none [] 0 .z (.n none [] 0 (.n (some 2) [(0, .one (.d .ent false)), (1, .one .c), (2, .one .c), (3, .one (.d .jd false)), (8, .p 0 [.c, .c, .c, .c, .c, .k, .c, .c, .c, .c, .k, .c, .c, .c, .c, .k, .c]), (33, .one (.d .jd false)), (34, .one .c), (35, .one .c)] 1 (.n none [] 0 .z (.n none [] 0 .z (.n none [] 0 (.n none [] 0 (.n none [] 0 .z (.n none [] 0 .z (.n (some 3) [(0, .one (.d .ent false)), (1, .one .c), (2, .one .c), (3, .one (.d .jd false)), (8, .p 0 [.c, .c, .c, .c, .c, .k, .c, .c, .c, .c, .k, .c, .c, .c, .c, .k, .c]), (11, .ps 1 .jd false), (12, .one .c), (33, .one (.d .jd false)), (34, .one .c), (35, .one .c)] 2 .z .z))) .z) .z))) .z) .z)) (.n none [] 0 .z (.n (some 4) [(8, .p 0 [.c, .c, .c, .c, .c, .k, .c, .c, .c, .c, .k, .c, .c, .c, .c, .k, .c]), (15, .ps 1 .jd false)] 2 .z .z))))), [.cell 8 31, .tmp 9], [.sl .ent, .sc .int, .sc .int, .sl .jd], [.st .jd, .sc .bool], false, true, 94, 6, [2]⟩
def C9 (n : Nat) : Cal := ⟨9, F9.ps, F9.rs, F9.fr, fun a => f9 n a.1 a.2.1 a.2.2.1 a.2.2.2.1⟩
def cs9 (n : Nat) : List Cal := [C29 n, C30, C31, C32, C33 n, C34 n, C35 n]
def st9_2 (p : List Ent) (l o : Int) (q : List Jd) (r : Bool) (s t u v w y z b c d g i j : Int) (B : List Jd) (C A : Int) : SS := ⟨[(0, .v (.one (.c (.sl .ent p) false))), (1, .v (.one (.c (.int l) true))), (2, .v (.one (.c (.int o) true))), (3, .v (.one (.c (.sl .jd q) false))), (8, .v (.one (.ptr 0 0))), (33, .v (.one (.c (.sl .jd B) false))), (34, .v (.one (.c (.int C) true))), (35, .v (.one (.c (.int A) true)))], [(0, some (.box [.c (.bool r) true, .c (.int s) true, .c (.int t) true, .c (.int u) true, .c (.int v) true, .nils, .c (.int w) true, .c (.int y) true, .c (.int z) true, .c (.int b) true, .nils, .c (.int c) true, .c (.int d) true, .c (.int g) true, .c (.int i) true, .nils, .c (.int j) true]))], 1⟩
theorem p9_2 (n R p l o q r s t u v w y z b c d g i j B C A) : F9.Wl Tryz.f9 tabR (cs9 n) R 2 (st9_2 p l o q r s t u v w y z b c d g i j B C A) = o9_2 n (c9_3 n (fun p l o q r s t u v w y z b c d g i j B C A => R 2 (st9_2 p l o q r s t u v w y z b c d g i j B C A))) (c9_4 n) p l o q r s t u v w y z b c d g i j B C A := by kernel_rfl
theorem m9_2 (n) : ∀ m : Nat, (∀ p l o q r s t u v w y z b c d g i j B C A, F9.Wm Tryz.f9 tabR (cs9 n) m 2 (st9_2 p l o q r s t u v w y z b c d g i j B C A) = l9_2 n m p l o q r s t u v w y z b c d g i j B C A) := by
  intro m
  induction m with
  | zero => exact (by intros; rfl)
  | succ m ih => intros; rw [Fn.Wm_succ, p9_2]; simp only [ih]; rfl
theorem p9_0 (n R x) : F9.W0 Tryz.f9 tabR (cs9 n) R x = o9_0 n (c9_1 n (fun p l o q r s t u v w y z b c d g i j B C A => R 2 (st9_2 p l o q r s t u v w y z b c d g i j B C A))) x.1 x.2.1 x.2.2.1 x.2.2.2.1 := by kernel_rfl
theorem w9 (n x) : F9.W Tryz.f9 tabR (cs9 n) n x = o9_0 n (c9_1 n (l9_2 n n)) x.1 x.2.1 x.2.2.1 x.2.2.2.1 := by
  rw [Fn.W_eq, p9_0]; simp only [m9_2 n n]; try rfl
theorem ok9 (n : Nat) : (C9 n).Ok Tryz.prog := okOf F9 Tryz.func9 htabR (cs := cs9 n) (by kernel_rfl) (mC (ok29 n) <| mC ok30 <| mC ok31 <| mC ok32 <| mC (ok33 n) <| mC (ok34 n) <| mC (ok35 n) <| mN) (fun x => ⟨n, w9 n x⟩)
-- tranship/transhipref11.rightJudg
def o39_0 (n : Nat) (k1 : Int -> Jd -> Option Bool) (a0 : Int) (a1 : Jd) : Option Bool :=
  (f41 a1.i).bind fun x1 => ifB (!x1) ( some false) ( (f69 n a1.u).bind fun x2 => ifB (!x2) ( some false) ( (f69 n a1.a).bind fun x3 => ifB (!x3) ( some false) ( (f72 n a1.u).bind fun x4 => ifB (decide (a0 < x4)) ( some false) ( (f72 n a1.a).bind fun x5 => ifB (decide (a0 < x5)) ( some false) ( k1 a0 a1)))))
def o39_1 (n : Nat) (q : Int) (p : Jd) : Option Bool :=
  ifB (!p.eq) ( (f73 p.v).bind fun x6 => some x6) ( (f69 n p.v).bind fun x7 => ifB x7 ( (f72 n p.v).bind fun x8 => some (decide (x8 ≤ q))) ( some false))
def c39_1 (n : Nat) (q : Int) (p : Jd) : Option Bool :=
  o39_1 n q p
def f39 (n : Nat) (a0 : Int) (a1 : Jd) : Option Bool := o39_0 n (c39_1 n) a0 a1
def F39 : Fn := ⟨39, (.n none [] 0 .z (.n (some 1) [(0, .one .c), (3, .ps 0 .jd false)] 1 .z .z)), [.tmp 4], [.sc .int, .st .jd], [.sc .bool], false, true, 51, 3, []⟩
def C39 (n : Nat) : Cal := ⟨39, F39.ps, F39.rs, F39.fr, fun a => f39 n a.1 a.2.1⟩
def cs39 (n : Nat) : List Cal := [C41, C69 n, C72 n, C73]
theorem w39 (n x) : F39.W Tryz.f39 tabR (cs39 n) 0 x = o39_0 n (c39_1 n) x.1 x.2.1 := by kernel_rfl
theorem ok39 (n : Nat) : (C39 n).Ok Tryz.prog := okOf F39 Tryz.func39 htabR (cs := cs39 n) (by kernel_rfl) (mC ok41 <| mC (ok69 n) <| mC (ok72 n) <| mC ok73 <| mN) (fun x => ⟨0, w39 n x⟩)
-- tranship/transhipref11.sort
def o75_0 (a0 : Int) : Option Tm :=
  some (Tm.mk 1 a0 0 0 ([] : List Tm))
def f75 (a0 : Int) : Option Tm := o75_0 a0
def F75 : Fn := ⟨75, .z, [.cell 2 29], [.sc .int], [.st .tm], false, true, 5, 2, []⟩
def C75 : Cal := ⟨75, F75.ps, F75.rs, F75.fr, fun a => f75 a.1⟩
def cs75 : List Cal := []
theorem w75 (x) : F75.W Tryz.f75 tabR cs75 0 x = o75_0 x.1 := by kernel_rfl
theorem ok75 : C75.Ok Tryz.prog := okOf F75 Tryz.func75 htabR (cs := cs75) (by kernel_rfl) (mN) (fun x => ⟨0, w75 x⟩)
-- tranship/transhipref11.same
def o88_0 (n : Nat) (a0 a1 : Tm) : Option Bool :=
  (f118 n a0 a1).bind fun x1 => some x1
def f88 (n : Nat) (a0 a1 : Tm) : Option Bool := o88_0 n a0 a1
def F88 : Fn := ⟨88, .z, [.tmp 4], [.st .tm, .st .tm], [.sc .bool], false, true, 8, 2, []⟩
def C88 (n : Nat) : Cal := ⟨88, F88.ps, F88.rs, F88.fr, fun a => f88 n a.1 a.2.1⟩
def cs88 (n : Nat) : List Cal := [C118 n]
theorem w88 (n x) : F88.W Tryz.f88 tabR (cs88 n) 0 x = o88_0 n x.1 x.2.1 := by kernel_rfl
theorem ok88 (n : Nat) : (C88 n).Ok Tryz.prog := okOf F88 Tryz.func88 htabR (cs := cs88 n) (by kernel_rfl) (mC (ok118 n) <| mN) (fun x => ⟨0, w88 n x⟩)
-- tranship/transhipref11.types
def o53_0 (n : Nat) (a0 : Jd) (a1 : Bool) : Option (Int × Bool) :=
  ckI (a0.i - (1 : Int)) <| ifB (a0.eq == a1) ( ifB (decide ((1 : Int) ≤ a0.i)) ( ckI (a0.i - (1 : Int)) <| (f75 (a0.i - (1 : Int))).bind fun x1 => (f88 n a0.a x1).bind fun x2 => some ((a0.i - (1 : Int)), x2)) ( some ((a0.i - (1 : Int)), false))) ( some ((a0.i - (1 : Int)), false))
def f53 (n : Nat) (a0 : Jd) (a1 : Bool) : Option (Int × Bool) := o53_0 n a0 a1
def F53 : Fn := ⟨53, .z, [.tmp 4, .tmp 5], [.st .jd, .sc .bool], [.sc .int, .sc .bool], false, true, 27, 2, []⟩
def C53 (n : Nat) : Cal := ⟨53, F53.ps, F53.rs, F53.fr, fun a => f53 n a.1 a.2.1⟩
def cs53 (n : Nat) : List Cal := [C75, C88 n]
theorem w53 (n x) : F53.W Tryz.f53 tabR (cs53 n) 0 x = o53_0 n x.1 x.2.1 := by kernel_rfl
theorem ok53 (n : Nat) : (C53 n).Ok Tryz.prog := okOf F53 Tryz.func53 htabR (cs := cs53 n) (by kernel_rfl) (mC ok75 <| mC (ok88 n) <| mN) (fun x => ⟨0, w53 n x⟩)
-- tranship/transhipref11.Premise
def o38_0 (n : Nat) (k1 : (List Ent) -> Int -> Int -> (List Jd) -> Option ((List Ent) × Bool)) (a0 : List Ent) (a1 a2 : Int) (a3 : List Jd) : Option ((List Ent) × Bool) :=
  (f36 n a0).bind fun x1 => ifB (!x1) ( some (([] : List Ent), false)) ( ifB (decide (a2 < (0 : Int))) ( some (([] : List Ent), false)) ( (f37 a1).bind fun x2 => ifB (decide (x2 ≤ a2)) ( some (([] : List Ent), false)) ( k1 a0 a1 a2 a3)))
def o38_1 (n : Nat) (k2 : (List Ent) -> Int -> (List Jd) -> Option ((List Ent) × Bool)) (q : List Ent) (p u : Int) (s : List Jd) : Option ((List Ent) × Bool) :=
  (f71 p u).bind fun x3 => ifB (!x3) ( (f54 n q (Tm.mk 0 0 0 0 []) 0).bind fun x4 => ckB (decide (0 ≤ (0 : Int)) && (decide ((0 : Int) ≤ (q.length : Int)) && decide ((q.length : Int) ≤ x4.length))) <| some (((x4.take (q.length : Int).toNat).drop (0 : Int).toNat), true)) ( ifB (decide ((s.length : Int) < (1 : Int))) ( some (([] : List Ent), false)) ( atI s 0 fun x5 => (f39 n (q.length : Int) x5).bind fun x6 => ifB (!x6) ( some (([] : List Ent), false)) ( k2 q p s)))
def o38_2 (n : Nat) (k3 : (List Ent) -> Int -> Jd -> Int -> Bool -> Option ((List Ent) × Bool)) (q : List Ent) (p : Int) (s : List Jd) : Option ((List Ent) × Bool) :=
  atI s 0 fun x7 => ifB (decide (p = (3 : Int))) ( k3 q p x7 p (decide (p = (3 : Int)))) ( ifB (decide (p = (6 : Int))) ( k3 q p x7 p (decide (p = (6 : Int)))) ( k3 q p x7 p (decide (p = (4 : Int)))))
def o38_3 (n : Nat) (k4 : (List Ent) -> Int -> Jd -> Bool -> Option ((List Ent) × Bool)) (q : List Ent) (p : Int) (r : Jd) (t : Int) (v : Bool) : Option ((List Ent) × Bool) :=
  ifB v ( (f53 n r false).bind fun x8 => ifB (!x8.2) ( some (([] : List Ent), false)) ( (f54 n q r.u x8.1).bind fun x9 => some (x9, true))) ( ifB (decide (t = (25 : Int))) ( k4 q p r (decide (t = (25 : Int)))) ( ifB (decide (t = (26 : Int))) ( k4 q p r (decide (t = (26 : Int)))) ( ifB (decide (t = (27 : Int))) ( k4 q p r (decide (t = (27 : Int)))) ( k4 q p r (decide (t = (28 : Int)))))))
def o38_4 (n : Nat) (q : List Ent) (p : Int) (r : Jd) (w : Bool) : Option ((List Ent) × Bool) :=
  ifB w ( (f53 n r true).bind fun x10 => ifB (!x10.2) ( some (([] : List Ent), false)) ( (f54 n q r.u x10.1).bind fun x11 => some (x11, true))) ( ifB (!(r.eq == (decide (p = (23 : Int))))) ( some (([] : List Ent), false)) ( (f54 n q r.a r.i).bind fun x12 => some (x12, true)))
def c38_4 (n : Nat) (q : List Ent) (p : Int) (r : Jd) (w : Bool) : Option ((List Ent) × Bool) :=
  o38_4 n q p r w
def c38_3 (n : Nat) (q : List Ent) (p : Int) (r : Jd) (t : Int) (v : Bool) : Option ((List Ent) × Bool) :=
  o38_3 n (c38_4 n) q p r t v
def c38_2 (n : Nat) (q : List Ent) (p : Int) (s : List Jd) : Option ((List Ent) × Bool) :=
  o38_2 n (c38_3 n) q p s
def c38_1 (n : Nat) (q : List Ent) (p u : Int) (s : List Jd) : Option ((List Ent) × Bool) :=
  o38_1 n (c38_2 n) q p u s
def f38 (n : Nat) (a0 : List Ent) (a1 a2 : Int) (a3 : List Jd) : Option ((List Ent) × Bool) := o38_0 n (c38_1 n) a0 a1 a2 a3
def F38 : Fn := ⟨38, (.n none [] 0 .z (.n (some 1) [(0, .one (.d .ent false)), (1, .one .c), (2, .one .c), (3, .one (.d .jd false))] 0 .z (.n none [] 0 .z (.n (some 2) [(0, .one (.d .ent false)), (1, .one .c), (3, .one (.d .jd false))] 0 .z (.n none [] 0 .z (.n none [] 0 (.n none [] 0 .z (.n none [] 0 (.n (some 3) [(0, .one (.d .ent false)), (1, .one .c), (10, .ps 0 .jd false), (53, .one .c), (54, .one .c)] 1 .z (.n none [] 0 .z (.n (some 4) [(0, .one (.d .ent false)), (1, .one .c), (10, .ps 0 .jd false), (70, .one .c)] 1 .z .z))) .z)) .z)))))), [.tmp 8, .tmp 9], [.sl .ent, .sc .int, .sc .int, .sl .jd], [.sl .ent, .sc .bool], false, false, 98, 6, []⟩
def C38 (n : Nat) : Cal := ⟨38, F38.ps, F38.rs, F38.fr, fun a => f38 n a.1 a.2.1 a.2.2.1 a.2.2.2.1⟩
def cs38 (n : Nat) : List Cal := [C36 n, C37, C39 n, C53 n, C54 n, C71]
theorem w38 (n x) : F38.W Tryz.f38 tabR (cs38 n) 0 x = o38_0 n (c38_1 n) x.1 x.2.1 x.2.2.1 x.2.2.2.1 := by kernel_rfl
theorem ok38 (n : Nat) : (C38 n).Ok Tryz.prog := okOf F38 Tryz.func38 htabR (cs := cs38 n) (by kernel_rfl) (mC (ok36 n) <| mC ok37 <| mC (ok39 n) <| mC (ok53 n) <| mC (ok54 n) <| mC ok71 <| mN) (fun x => ⟨0, w38 n x⟩)
def F38s : Fn := ⟨38, (.n none [] 0 .z (.n (some 1) [(0, .one (.d .ent false)), (1, .one .c), (2, .one .c), (3, .o)] 0 .z (.n none [] 0 .z (.n (some 2) [(0, .one (.d .ent false)), (1, .one .c), (3, .o)] 0 .z (.n none [] 0 .z (.n none [] 0 (.n none [] 0 .z (.n none [] 0 (.n (some 3) [(0, .one (.d .ent false)), (1, .one .c), (10, .ps 0 .jd false), (53, .one .c), (54, .one .c)] 1 .z (.n none [] 0 .z (.n (some 4) [(0, .one (.d .ent false)), (1, .one .c), (10, .ps 0 .jd false), (70, .one .c)] 1 .z .z))) .z)) .z)))))), [.tmp 8, .tmp 9], [.sl .ent, .sc .int, .sc .int, .shl .jd], [.sl .ent, .sc .bool], false, false, 98, 6, []⟩
def C38s (n : Nat) : Cal := ⟨38, F38s.ps, F38s.rs, F38s.fr, fun a => f38 n a.1 a.2.1 a.2.2.1 a.2.2.2.1⟩
def cs38s (n : Nat) : List Cal := [C36 n, C37, C39 n, C53 n, C54 n, C71]
theorem w38s (n x) : F38s.W Tryz.f38 tabR (cs38s n) 0 x = o38_0 n (c38_1 n) x.1 x.2.1 x.2.2.1 x.2.2.2.1 := by kernel_rfl
theorem ok38s (n : Nat) : (C38s n).Ok Tryz.prog := okOf F38s Tryz.func38 htabR (cs := cs38s n) (by kernel_rfl) (mC (ok36 n) <| mC ok37 <| mC (ok39 n) <| mC (ok53 n) <| mC (ok54 n) <| mC ok71 <| mN) (fun x => ⟨0, w38s n x⟩)
-- tranship/rule.Premise
def o44_0 (n : Nat) (k1 : (List Ent) -> Int -> Int -> (List Jd) -> Option ((List Ent) × Bool)) (a0 : List Ent) (a1 a2 : Int) (a3 : List Jd) : Option ((List Ent) × Bool) :=
  (f29 n a0).bind fun x1 => ifB (!x1) ( some (([] : List Ent), false)) ( ifB (decide (a2 < (0 : Int))) ( some (([] : List Ent), false)) ( (f30 a1).bind fun x2 => ifB (decide (x2 ≤ a2)) ( some (([] : List Ent), false)) ( k1 a0 a1 a2 a3)))
def o44_1 (n : Nat) (k2 : (List Ent) -> (List Ent) -> Int -> Int -> Option ((List Ent) × Bool)) (k3 : (List Ent) -> Int -> (List Jd) -> Option ((List Ent) × Bool)) (t : List Ent) (v w : Int) (u : List Jd) : Option ((List Ent) × Bool) :=
  (f31 v w).bind fun x3 => ifB (!x3) ( ckB (decide (0 ≤ (0 : Int)) && (decide ((0 : Int) ≤ (t.length : Int)) && decide ((64 : Nat) * (t.length : Int) ≤ 281474976710656))) <| k2 (List.replicate (0 : Int).toNat (Ent.mk (Tm.mk 0 0 0 0 []) 0)) t (t.length : Int) 0) ( ifB (decide ((u.length : Int) = (0 : Int))) ( some (([] : List Ent), false)) ( atI u 0 fun x4 => (f33 n x4 (t.length : Int)).bind fun x5 => ifB (!x5) ( some (([] : List Ent), false)) ( k3 t v u)))
def o44_2 (n : Nat) (k2 : (List Ent) -> (List Ent) -> Int -> Int -> Option ((List Ent) × Bool)) (p r : List Ent) (s q : Int) : Option ((List Ent) × Bool) :=
  ifB (decide (q < s)) ( atI r q fun x6 => (f35 n x6.a).bind fun x7 => ckB (decide ((p.length + [(Ent.mk (Tm.mk x7.kind x7.i x7.j x7.n x7.kids) x6.i)].length) * 64 ≤ 140737488355328) && decide (p.length + [(Ent.mk (Tm.mk x7.kind x7.i x7.j x7.n x7.kids) x6.i)].length ≤ 9223372036854775807)) <| ckI (q + (1 : Int)) <| k2 (p ++ [(Ent.mk (Tm.mk x7.kind x7.i x7.j x7.n x7.kids) x6.i)]) r s (q + (1 : Int))) ( some (p, true))
def o44_3 (n : Nat) (t : List Ent) (v : Int) (u : List Jd) : Option ((List Ent) × Bool) :=
  atI u 0 fun x8 => (f32 v x8).bind fun x9 => ifB (!x9.2) ( some (([] : List Ent), false)) ( (f82 n t x9.1.a x9.1.i).bind fun x10 => some (x10, true))
def c44_3 (n : Nat) (t : List Ent) (v : Int) (u : List Jd) : Option ((List Ent) × Bool) :=
  o44_3 n t v u
def c44_1 (n : Nat) (k2 : (List Ent) -> (List Ent) -> Int -> Int -> Option ((List Ent) × Bool)) (t : List Ent) (v w : Int) (u : List Jd) : Option ((List Ent) × Bool) :=
  o44_1 n k2 (c44_3 n) t v w u
def l44_2 (n : Nat) : Nat → (List Ent) -> (List Ent) -> Int -> Int -> Option ((List Ent) × Bool)
  | 0, _, _, _, _ => none
  | m + 1, p, r, s, q => o44_2 n (l44_2 n m) p r s q
def f44 (n : Nat) (a0 : List Ent) (a1 a2 : Int) (a3 : List Jd) : Option ((List Ent) × Bool) := o44_0 n (c44_1 n (l44_2 n n)) a0 a1 a2 a3
def F44 : Fn := ⟨44, (.n none [] 0 .z (.n (some 1) [(0, .one (.d .ent false)), (1, .one .c), (2, .one .c), (3, .one (.d .jd false))] 0 .z (.n none [] 0 (.n none [] 0 .z (.n none [] 0 (.n none [] 0 .z (.n none [] 0 (.n none [] 0 .z (.n none [] 0 (.n (some 2) [(10, .one (.r 0 63 .ent true)), (35, .one (.d .ent false)), (36, .one .c), (37, .one .c)] 1 .z .z) .z)) .z)) .z)) (.n (some 3) [(0, .one (.d .ent false)), (1, .one .c), (3, .one (.d .jd false))] 0 .z .z)))), [.tmp 8, .tmp 9], [.sl .ent, .sc .int, .sc .int, .sl .jd], [.sl .ent, .sc .bool], false, true, 80, 5, [2]⟩
def C44 (n : Nat) : Cal := ⟨44, F44.ps, F44.rs, F44.fr, fun a => f44 n a.1 a.2.1 a.2.2.1 a.2.2.2.1⟩
def cs44 (n : Nat) : List Cal := [C29 n, C30, C31, C32, C33 n, C35 n, C82 n]
def st44_2 (p r : List Ent) (s q : Int) : SS := ⟨[(10, .v (.one (.arr 0))), (35, .v (.one (.c (.sl .ent r) false))), (36, .v (.one (.c (.int s) true))), (37, .v (.one (.c (.int q) true)))], [(0, some (.row 63 .ent p true))], 1⟩
theorem p44_2 (n R p r s q) : F44.Wl Tryz.f44 tabR (cs44 n) R 2 (st44_2 p r s q) = o44_2 n (fun p r s q => R 2 (st44_2 p r s q)) p r s q := by kernel_rfl
theorem m44_2 (n) : ∀ m : Nat, (∀ p r s q, F44.Wm Tryz.f44 tabR (cs44 n) m 2 (st44_2 p r s q) = l44_2 n m p r s q) := by
  intro m
  induction m with
  | zero => exact (by intros; rfl)
  | succ m ih => intros; rw [Fn.Wm_succ, p44_2]; simp only [ih]; rfl
theorem p44_0 (n R x) : F44.W0 Tryz.f44 tabR (cs44 n) R x = o44_0 n (c44_1 n (fun p r s q => R 2 (st44_2 p r s q))) x.1 x.2.1 x.2.2.1 x.2.2.2.1 := by kernel_rfl
theorem w44 (n x) : F44.W Tryz.f44 tabR (cs44 n) n x = o44_0 n (c44_1 n (l44_2 n n)) x.1 x.2.1 x.2.2.1 x.2.2.2.1 := by
  rw [Fn.W_eq, p44_0]; simp only [m44_2 n n]; try rfl
theorem ok44 (n : Nat) : (C44 n).Ok Tryz.prog := okOf F44 Tryz.func44 htabR (cs := cs44 n) (by kernel_rfl) (mC (ok29 n) <| mC ok30 <| mC ok31 <| mC ok32 <| mC (ok33 n) <| mC (ok35 n) <| mC (ok82 n) <| mN) (fun x => ⟨n, w44 n x⟩)
end Go.Proofs.YtcaahmielncmpaaGreat
