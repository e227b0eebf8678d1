/-
  What lifting, stripping, putting and erasing compute, as plain functions.
-/
import Derived.Test.YtcaahmielncmpaaGreatGenK
set_option linter.unusedSimpArgs false
set_option linter.unusedVariables false
namespace Go.Proofs.YtcaahmielncmpaaGreat
open Go Go.RowKit
set_option maxRecDepth 100000
-- tranship/lift.Lift
def o93_0 (n : Nat) (k1 : Int -> Int -> Tm -> Int -> Int -> Int -> Int -> Option Tm) (a0 : Tm) (a1 a2 : Int) : Option Tm :=
  ifB (decide (a1 < (0 : Int))) ( some (Tm.mk 0 0 0 0 [])) ( ifB (decide (a2 < (0 : Int))) ( some (Tm.mk 0 0 0 0 [])) ( (f91 n a0).bind fun x1 => ifB (!x1) ( some (Tm.mk 0 0 0 0 [])) ( k1 a1 a2 a0 0 0 0 0)))
def o93_1 (n : Nat) (p q : Int) (r : Tm) (s t u v : Int) : Option Tm :=
  (f121 n r p (min q 2147483648)).bind fun x2 => ifB (!x2.2) ( some (Tm.mk 0 0 0 0 [])) ( some x2.1)
def c93_1 (n : Nat) (p q : Int) (r : Tm) (s t u v : Int) : Option Tm :=
  o93_1 n p q r s t u v
def f93 (n : Nat) (a0 : Tm) (a1 a2 : Int) : Option Tm := o93_0 n (c93_1 n) a0 a1 a2
def F93 : Fn := ⟨93, (.n none [] 0 .z (.n (some 1) [(1, .one .c), (2, .one .c), (3, .ps 0 .tm false), (6, .p 1 [.c, .c, .c, .c, .k])] 2 .z .z)), [.cell 6 29], [.st .tm, .sc .int, .sc .int], [.st .tm], false, true, 33, 3, []⟩
def C93 (n : Nat) : Cal := ⟨93, F93.ps, F93.rs, F93.fr, fun a => f93 n a.1 a.2.1 a.2.2.1⟩
def cs93 (n : Nat) : List Cal := [C91 n, C121 n]
theorem w93 (n x) : F93.W Tryz.f93 tabR (cs93 n) 0 x = o93_0 n (c93_1 n) x.1 x.2.1 x.2.2.1 := by kernel_rfl
theorem ok93 (n : Nat) : (C93 n).Ok Tryz.prog := okOf F93 Tryz.func93 htabR (cs := cs93 n) (by kernel_rfl) (mC (ok91 n) <| mC (ok121 n) <| mN) (fun x => ⟨0, w93 n x⟩)
-- tranship/subst.open
def o134_0 (a0 : Tm) : Option Bool :=
  ifB (decide (a0.kind = (1 : Int))) ( some true) ( ifB (decide (a0.kind = (2 : Int))) ( some true) ( some (decide ((13 : Int) ≤ a0.kind))))
def f134 (a0 : Tm) : Option Bool := o134_0 a0
def F134 : Fn := ⟨134, .z, [.tmp 2], [.st .tm], [.sc .bool], false, true, 16, 2, []⟩
def C134 : Cal := ⟨134, F134.ps, F134.rs, F134.fr, fun a => f134 a.1⟩
def cs134 : List Cal := []
theorem w134 (x) : F134.W Tryz.f134 tabR cs134 0 x = o134_0 x.1 := by kernel_rfl
theorem ok134 : C134.Ok Tryz.prog := okOf F134 Tryz.func134 htabR (cs := cs134) (by kernel_rfl) (mN) (fun x => ⟨0, w134 x⟩)
-- tranship/strip.strip
def o143_0 (s143 : Tm → Option Tm) (n : Nat) (k1 : Tm -> Int -> Int -> Int -> Int -> Int -> Int -> Option Tm) (a0 : Tm) : Option Tm :=
  ifB (decide (a0.kind = (3 : Int))) ( k1 a0 0 0 0 0 13 0) ( ifB (decide (a0.kind = (4 : Int))) ( atI a0.kids 0 fun x1 => (s143 x1).bind fun x2 => atI a0.kids 2 fun x3 => (s143 x3).bind fun x4 => (f105 14 0 0 0 [(Tm.mk x2.kind x2.i x2.j x2.n x2.kids), (Tm.mk x4.kind x4.i x4.j x4.n x4.kids)]).bind fun x5 => some x5) ( ifB (decide (a0.kind = (5 : Int))) ( k1 a0 0 0 0 0 15 2) ( ifB (decide (a0.kind = (6 : Int))) ( k1 a0 0 0 0 0 16 0) ( ifB (decide (a0.kind = (7 : Int))) ( k1 a0 0 0 0 0 17 0) ( ifB (decide (a0.kind = (8 : Int))) ( k1 a0 0 0 0 0 18 2) ( ifB (decide (a0.kind = (9 : Int))) ( k1 a0 0 0 0 0 19 2) ( ifB (decide (a0.kind = (10 : Int))) ( k1 a0 0 0 0 0 20 0) ( ifB (decide (a0.kind = (11 : Int))) ( k1 a0 0 0 0 0 21 0) ( ifB (decide (a0.kind = (12 : Int))) ( atI a0.kids 0 fun x6 => (s143 x6).bind fun x7 => atI a0.kids 1 fun x8 => (s143 x8).bind fun x9 => atI a0.kids 2 fun x10 => (f35 n x10).bind fun x11 => atI a0.kids 3 fun x12 => (s143 x12).bind fun x13 => (f105 23 a0.i 0 5 [(Tm.mk x7.kind x7.i x7.j x7.n x7.kids), (Tm.mk x9.kind x9.i x9.j x9.n x9.kids), (Tm.mk x11.kind x11.i x11.j x11.n x11.kids), (Tm.mk x13.kind x13.i x13.j x13.n x13.kids)]).bind fun x14 => some x14) ( (f35 n a0).bind fun x15 => some x15))))))))))
def o143_1 (s143 : Tm → Option Tm) (n : Nat) (k2 : Int -> Int -> Int -> Int -> Int -> Int -> Int -> Int -> (List Tm) -> (List Tm) -> Int -> Int -> Option Tm) (d : Tm) (p q r s i g : Int) : Option Tm :=
  ckI ((d.kids.length : Int) - g) <| ckB (decide (0 ≤ (0 : Int)) && (decide ((0 : Int) ≤ ((d.kids.length : Int) - g)) && decide ((56 : Nat) * ((d.kids.length : Int) - g) ≤ 281474976710656))) <| ckB (decide (0 ≤ g) && (decide (g ≤ (d.kids.length : Int)) && decide ((d.kids.length : Int) ≤ d.kids.length))) <| k2 p q r s i 0 0 0 (List.replicate (0 : Int).toNat (Tm.mk 0 0 0 0 [])) ((d.kids.take (d.kids.length : Int).toNat).drop g.toNat) (((d.kids.take (d.kids.length : Int).toNat).drop g.toNat).length : Int) 0
def o143_2 (s143 : Tm → Option Tm) (n : Nat) (k2 : Int -> Int -> Int -> Int -> Int -> Int -> Int -> Int -> (List Tm) -> (List Tm) -> Int -> Int -> Option Tm) (p q r s v w y z : Int) (t b : List Tm) (c u : Int) : Option Tm :=
  ifB (decide (u < c)) ( atI b u fun x16 => (s143 x16).bind fun x17 => ckB (decide ((t.length + [(Tm.mk x17.kind x17.i x17.j x17.n x17.kids)].length) * 56 ≤ 140737488355328) && decide (t.length + [(Tm.mk x17.kind x17.i x17.j x17.n x17.kids)].length ≤ 9223372036854775807)) <| ckI (u + (1 : Int)) <| k2 p q r s v w y z (t ++ [(Tm.mk x17.kind x17.i x17.j x17.n x17.kids)]) b c (u + (1 : Int))) ( some (Tm.mk v w y z t))
def c143_1 (s143 : Tm → Option Tm) (n : Nat) (k2 : Int -> Int -> Int -> Int -> Int -> Int -> Int -> Int -> (List Tm) -> (List Tm) -> Int -> Int -> Option Tm) (d : Tm) (p q r s i g : Int) : Option Tm :=
  o143_1 s143 n k2 d p q r s i g
def l143_2 (s143 : Tm → Option Tm) (n : Nat) : Nat → Int -> Int -> Int -> Int -> Int -> Int -> Int -> Int -> (List Tm) -> (List Tm) -> Int -> Int -> Option Tm
  | 0, _, _, _, _, _, _, _, _, _, _, _, _ => none
  | m + 1, p, q, r, s, v, w, y, z, t, b, c, u => o143_2 s143 n (l143_2 s143 n m) p q r s v w y z t b c u
def f143 : Nat → Tm → Option Tm
  | 0, _ => none
  | n + 1, a0 => o143_0 (f143 n) n (c143_1 (f143 n) n (l143_2 (f143 n) n n)) a0
def F143 : Fn := ⟨143, (.n none [] 0 .z (.n none [] 0 .z (.n (some 1) [(1, .ps 0 .tm false), (2, .p 1 [.c, .c, .c, .c, .k]), (3, .one .c), (4, .one .c)] 2 .z (.n none [] 0 .z (.n none [] 0 (.n none [] 0 .z (.n none [] 0 (.n (some 2) [(2, .p 0 [.c, .c, .c, .c, .k]), (5, .p 1 [.c, .c, .c, .c, .r 2 29 .tm true]), (79, .one (.d .tm false)), (80, .one .c), (81, .one .c)] 3 .z .z) .z)) .z))))), [.cell 2 29], [.st .tm], [.st .tm], false, true, 94, 4, [2]⟩
def C143 (n : Nat) : Cal := ⟨143, F143.ps, F143.rs, F143.fr, fun a => f143 n a.1⟩
def cs143 (s143 : Tm → Option Tm) (n : Nat) : List Cal := [C35 n, C105p, ⟨143, [.st .tm], [.st .tm], true, fun a => s143 a.1⟩]
def st143_2 (p q r s v w y z : Int) (t b : List Tm) (c u : Int) : SS := ⟨[(2, .v (.one (.ptr 0 0))), (5, .v (.one (.ptr 1 0))), (79, .v (.one (.c (.sl .tm b) false))), (80, .v (.one (.c (.int c) true))), (81, .v (.one (.c (.int u) true)))], [(0, some (.box [.c (.int p) true, .c (.int q) true, .c (.int r) true, .c (.int s) true, .nils])), (1, some (.box [.c (.int v) true, .c (.int w) true, .c (.int y) true, .c (.int z) true, .arr 2])), (2, some (.row 29 .tm t true))], 3⟩
theorem p143_2 (s143 n R p q r s v w y z t b c u) : F143.Wl Tryz.f143 tabR (cs143 s143 n) R 2 (st143_2 p q r s v w y z t b c u) = o143_2 s143 n (fun p q r s v w y z t b c u => R 2 (st143_2 p q r s v w y z t b c u)) p q r s v w y z t b c u := by kernel_rfl
theorem m143_2 (s143 n) : ∀ m : Nat, (∀ p q r s v w y z t b c u, F143.Wm Tryz.f143 tabR (cs143 s143 n) m 2 (st143_2 p q r s v w y z t b c u) = l143_2 s143 n m p q r s v w y z t b c u) := by
  intro m
  induction m with
  | zero => exact (by intros; rfl)
  | succ m ih => intros; rw [Fn.Wm_succ, p143_2]; simp only [ih]; rfl
theorem p143_0 (s143 n R x) : F143.W0 Tryz.f143 tabR (cs143 s143 n) R x = o143_0 s143 n (c143_1 s143 n (fun p q r s v w y z t b c u => R 2 (st143_2 p q r s v w y z t b c u))) x.1 := by kernel_rfl
theorem w143 (s143 n x) : F143.W Tryz.f143 tabR (cs143 s143 n) n x = o143_0 s143 n (c143_1 s143 n (l143_2 s143 n n)) x.1 := by
  rw [Fn.W_eq, p143_0]; simp only [m143_2 s143 n n]; try rfl
theorem okr143 : ∀ n : Nat, (C143 n).Ok Tryz.prog
  | 0 => okZ (by kernel_rfl) (fun _ => rfl)
  | n + 1 => okOf F143 Tryz.func143 htabR (cs := cs143 (f143 n) n) (by kernel_rfl) (mC (ok35 n) <| mC ok105p <| mC (okr143 n) <| mN) (fun x => ⟨n, w143 (f143 n) n x⟩)
theorem ok143 (n : Nat) : (C143 n).Ok Tryz.prog := (okr143 n)
-- tranship/strip.Strip
def o135_0 (n : Nat) (a0 : Tm) : Option Tm :=
  (f91 n a0).bind fun x1 => ifB (!x1) ( some (Tm.mk 0 0 0 0 [])) ( (f143 n a0).bind fun x2 => some x2)
def f135 (n : Nat) (a0 : Tm) : Option Tm := o135_0 n a0
def F135 : Fn := ⟨135, .z, [.cell 2 29], [.st .tm], [.st .tm], false, true, 9, 2, []⟩
def C135 (n : Nat) : Cal := ⟨135, F135.ps, F135.rs, F135.fr, fun a => f135 n a.1⟩
def cs135 (n : Nat) : List Cal := [C91 n, C143 n]
theorem w135 (n x) : F135.W Tryz.f135 tabR (cs135 n) 0 x = o135_0 n x.1 := by kernel_rfl
theorem ok135 (n : Nat) : (C135 n).Ok Tryz.prog := okOf F135 Tryz.func135 htabR (cs := cs135 n) (by kernel_rfl) (mC (ok91 n) <| mC (ok143 n) <| mN) (fun x => ⟨0, w135 n x⟩)
-- (*tranship/subst.putting).at
def o144_0 (n : Nat) (a0 : List Tm × List Tm × Bool × Unit) (a1 a2 : Int) (a3 : Bool) : Option (Tm × Bool) :=
  ifB (decide ((a0.1.length : Int) ≤ a1)) ( ifB (!a0.2.2.1) ( some ((Tm.mk 0 0 0 0 []), false)) ( ckI (a1 - (a0.1.length : Int)) <| ckI ((a1 - (a0.1.length : Int)) + a2) <| (f65 ((a1 - (a0.1.length : Int)) + a2)).bind fun x1 => some (x1, true))) ( ifB a3 ( atI a0.2.1 a1 fun x2 => (f121 n x2 a2 0).bind fun x3 => some (x3.1, x3.2)) ( atI a0.1 a1 fun x4 => (f121 n x4 a2 0).bind fun x5 => some (x5.1, x5.2)))
def f144 (n : Nat) (a0 : List Tm × List Tm × Bool × Unit) (a1 a2 : Int) (a3 : Bool) : Option (Tm × Bool) := o144_0 n a0 a1 a2 a3
def F144 : Fn := ⟨144, .z, [.cell 8 29, .tmp 9], [.ro [(true, .tm), (true, .tm), (false, .bool)], .sc .int, .sc .int, .sc .bool], [.st .tm, .sc .bool], false, true, 56, 2, []⟩
def C144 (n : Nat) : Cal := ⟨144, F144.ps, F144.rs, F144.fr, fun a => f144 n a.1 a.2.1 a.2.2.1 a.2.2.2.1⟩
def cs144 (n : Nat) : List Cal := [C65, C121 n]
theorem w144 (n x) : F144.W Tryz.f144 tabR (cs144 n) 0 x = o144_0 n x.1 x.2.1 x.2.2.1 x.2.2.2.1 := by kernel_rfl
theorem ok144 (n : Nat) : (C144 n).Ok Tryz.prog := okOf F144 Tryz.func144 htabR (cs := cs144 n) (by kernel_rfl) (mC ok65 <| mC (ok121 n) <| mN) (fun x => ⟨0, w144 n x⟩)
-- (*tranship/subst.putting).walk
def o136_0 (s136 : (List Tm × List Tm × Bool × Unit) → Tm → Int → Bool → Option (Tm × Bool)) (n : Nat) (k1 : (List Tm) -> (List Tm) -> Bool -> Int -> Bool -> Tm -> Int -> Int -> Int -> Int -> Bool -> Option (Tm × Bool)) (a0 : List Tm × List Tm × Bool × Unit) (a1 : Tm) (a2 : Int) (a3 : Bool) : Option (Tm × Bool) :=
  ifB (decide (a1.kind = (2 : Int))) ( k1 a0.1 a0.2.1 a0.2.2.1 a2 a3 a1 0 0 0 0 (decide (a2 ≤ a1.i))) ( k1 a0.1 a0.2.1 a0.2.2.1 a2 a3 a1 0 0 0 0 false)
def o136_1 (s136 : (List Tm × List Tm × Bool × Unit) → Tm → Int → Bool → Option (Tm × Bool)) (n : Nat) (k2 : (List Tm) -> (List Tm) -> Bool -> Int -> Bool -> Tm -> Int -> Int -> Int -> Int -> (List Tm) -> (List Tm) -> Int -> Int -> Option (Tm × Bool)) (r s : List Tm) (t : Bool) (q : Int) (v : Bool) (p : Tm) (w y z b : Int) (l : Bool) : Option (Tm × Bool) :=
  ifB l ( ckI (p.i - q) <| (f144 n (r, s, t, ()) (p.i - q) q v).bind fun x1 => some (x1.1, x1.2)) ( ifB (decide ((p.kids.length : Int) = (0 : Int))) ( some ((Tm.mk p.kind p.i p.j p.n ([] : List Tm)), true)) ( ckB (decide (0 ≤ (p.kids.length : Int)) && (decide ((p.kids.length : Int) ≤ (p.kids.length : Int)) && decide ((56 : Nat) * (p.kids.length : Int) ≤ 281474976710656))) <| k2 r s t q v p w y z b (List.replicate (p.kids.length : Int).toNat (Tm.mk 0 0 0 0 [])) p.kids (p.kids.length : Int) 0))
def o136_2 (s136 : (List Tm × List Tm × Bool × Unit) → Tm → Int → Bool → Option (Tm × Bool)) (n : Nat) (k3 : (List Tm) -> (List Tm) -> Bool -> Int -> Bool -> Tm -> Int -> Int -> Int -> Int -> (List Tm) -> Int -> Tm -> Bool -> (List Tm) -> Int -> Int -> Option (Tm × Bool)) (r s : List Tm) (t : Bool) (q : Int) (v : Bool) (p : Tm) (w y z b : Int) (c d : List Tm) (g u : Int) : Option (Tm × Bool) :=
  ifB (decide (u < g)) ( atI d u fun x2 => (f120 p.kind u).bind fun x3 => ckI (q + x3) <| ifB v ( (s136 (r, s, t, ()) x2 (q + x3) true).bind fun x4 => k3 r s t q v p w y z b c u x4.1 x4.2 d g u) ( ifB (decide (p.kind = (12 : Int))) ( (s136 (r, s, t, ()) x2 (q + x3) (decide (u = (2 : Int)))).bind fun x5 => k3 r s t q v p w y z b c u x5.1 x5.2 d g u) ( (s136 (r, s, t, ()) x2 (q + x3) false).bind fun x6 => k3 r s t q v p w y z b c u x6.1 x6.2 d g u))) ( some ((Tm.mk p.kind p.i p.j p.n c), true))
def o136_3 (s136 : (List Tm × List Tm × Bool × Unit) → Tm → Int → Bool → Option (Tm × Bool)) (n : Nat) (k2 : (List Tm) -> (List Tm) -> Bool -> Int -> Bool -> Tm -> Int -> Int -> Int -> Int -> (List Tm) -> (List Tm) -> Int -> Int -> Option (Tm × Bool)) (r s : List Tm) (t : Bool) (q : Int) (v : Bool) (p : Tm) (w y z b : Int) (c : List Tm) (j : Int) (i : Tm) (o : Bool) (d : List Tm) (g u : Int) : Option (Tm × Bool) :=
  ifB (!o) ( some ((Tm.mk 0 0 0 0 []), false)) ( ckB (decide (0 ≤ j) && decide (j < c.length)) <| ckB (decide (j.toNat < c.length)) <| ckI (u + (1 : Int)) <| k2 r s t q v p w y z b (c.set j.toNat (Tm.mk i.kind i.i i.j i.n i.kids)) d g (u + (1 : Int)))
def c136_1 (s136 : (List Tm × List Tm × Bool × Unit) → Tm → Int → Bool → Option (Tm × Bool)) (n : Nat) (k2 : (List Tm) -> (List Tm) -> Bool -> Int -> Bool -> Tm -> Int -> Int -> Int -> Int -> (List Tm) -> (List Tm) -> Int -> Int -> Option (Tm × Bool)) (r s : List Tm) (t : Bool) (q : Int) (v : Bool) (p : Tm) (w y z b : Int) (l : Bool) : Option (Tm × Bool) :=
  o136_1 s136 n k2 r s t q v p w y z b l
def c136_3 (s136 : (List Tm × List Tm × Bool × Unit) → Tm → Int → Bool → Option (Tm × Bool)) (n : Nat) (k2 : (List Tm) -> (List Tm) -> Bool -> Int -> Bool -> Tm -> Int -> Int -> Int -> Int -> (List Tm) -> (List Tm) -> Int -> Int -> Option (Tm × Bool)) (r s : List Tm) (t : Bool) (q : Int) (v : Bool) (p : Tm) (w y z b : Int) (c : List Tm) (j : Int) (i : Tm) (o : Bool) (d : List Tm) (g u : Int) : Option (Tm × Bool) :=
  o136_3 s136 n k2 r s t q v p w y z b c j i o d g u
def l136_2 (s136 : (List Tm × List Tm × Bool × Unit) → Tm → Int → Bool → Option (Tm × Bool)) (n : Nat) : Nat → (List Tm) -> (List Tm) -> Bool -> Int -> Bool -> Tm -> Int -> Int -> Int -> Int -> (List Tm) -> (List Tm) -> Int -> Int -> Option (Tm × Bool)
  | 0, _, _, _, _, _, _, _, _, _, _, _, _, _, _ => none
  | m + 1, r, s, t, q, v, p, w, y, z, b, c, d, g, u => o136_2 s136 n (c136_3 s136 n (l136_2 s136 n m)) r s t q v p w y z b c d g u
def f136 : Nat → (List Tm × List Tm × Bool × Unit) → Tm → Int → Bool → Option (Tm × Bool)
  | 0, _, _, _, _ => none
  | n + 1, a0, a1, a2, a3 => o136_0 (f136 n) n (c136_1 (f136 n) n (l136_2 (f136 n) n n)) a0 a1 a2 a3
def F136 : Fn := ⟨136, (.n none [] 0 .z (.n none [] 0 (.n (some 1) [(0, .one .k), (2, .one .c), (3, .one .c), (5, .ps 0 .tm false), (8, .p 1 [.c, .c, .c, .c, .k]), (23, .one .c)] 2 .z .z) (.n none [] 0 .z (.n none [] 0 .z (.n none [] 0 (.n none [] 0 .z (.n none [] 0 (.n (some 2) [(0, .one .k), (2, .one .c), (3, .one .c), (5, .ps 0 .tm false), (8, .p 1 [.c, .c, .c, .c, .k]), (10, .one (.r 2 29 .tm true)), (45, .one (.d .tm false)), (46, .one .c), (47, .one .c)] 3 (.n none [] 0 .z (.n none [] 0 .z (.n none [] 0 (.n none [] 0 (.n none [] 0 .z (.n (some 3) [(0, .one .k), (2, .one .c), (3, .one .c), (5, .ps 0 .tm false), (8, .p 1 [.c, .c, .c, .c, .k]), (10, .one (.r 2 29 .tm true)), (11, .one .c), (13, .ps 3 .tm true), (14, .one .c), (45, .one (.d .tm false)), (46, .one .c), (47, .one .c)] 4 .z .z)) .z) .z))) .z) .z)) .z))))), [.cell 8 29, .tmp 9], [.ro [(true, .tm), (true, .tm), (false, .bool)], .st .tm, .sc .int, .sc .bool], [.st .tm, .sc .bool], false, true, 85, 5, [2]⟩
def C136 (n : Nat) : Cal := ⟨136, F136.ps, F136.rs, F136.fr, fun a => f136 n a.1 a.2.1 a.2.2.1 a.2.2.2.1⟩
def cs136 (s136 : (List Tm × List Tm × Bool × Unit) → Tm → Int → Bool → Option (Tm × Bool)) (n : Nat) : List Cal := [C120, ⟨136, [.ro [(true, .tm), (true, .tm), (false, .bool)], .st .tm, .sc .int, .sc .bool], [.st .tm, .sc .bool], true, fun a => s136 a.1 a.2.1 a.2.2.1 a.2.2.2.1⟩, C144 n]
def st136_2 (r s : List Tm) (t : Bool) (q : Int) (v : Bool) (p : Tm) (w y z b : Int) (c d : List Tm) (g u : Int) : SS := ⟨[(0, .v (.one (.rc [.sl .tm r, .sl .tm s, .bool t]))), (2, .v (.one (.c (.int q) true))), (3, .v (.one (.c (.bool v) true))), (5, .v (.one (.ptr 0 0))), (8, .v (.one (.ptr 1 0))), (10, .v (.one (.arr 2))), (45, .v (.one (.c (.sl .tm d) false))), (46, .v (.one (.c (.int g) true))), (47, .v (.one (.c (.int u) true)))], [(0, some (.bst .tm p false)), (1, some (.box [.c (.int w) true, .c (.int y) true, .c (.int z) true, .c (.int b) true, .nils])), (2, some (.row 29 .tm c true))], 3⟩
theorem p136_2 (s136 n R r s t q v p w y z b c d g u) : F136.Wl Tryz.f136 tabR (cs136 s136 n) R 2 (st136_2 r s t q v p w y z b c d g u) = o136_2 s136 n (c136_3 s136 n (fun r s t q v p w y z b c d g u => R 2 (st136_2 r s t q v p w y z b c d g u))) r s t q v p w y z b c d g u := by kernel_rfl
theorem m136_2 (s136 n) : ∀ m : Nat, (∀ r s t q v p w y z b c d g u, F136.Wm Tryz.f136 tabR (cs136 s136 n) m 2 (st136_2 r s t q v p w y z b c d g u) = l136_2 s136 n m r s t q v p w y z b c d g u) := by
  intro m
  induction m with
  | zero => exact (by intros; rfl)
  | succ m ih => intros; rw [Fn.Wm_succ, p136_2]; simp only [ih]; rfl
theorem p136_0 (s136 n R x) : F136.W0 Tryz.f136 tabR (cs136 s136 n) R x = o136_0 s136 n (c136_1 s136 n (fun r s t q v p w y z b c d g u => R 2 (st136_2 r s t q v p w y z b c d g u))) x.1 x.2.1 x.2.2.1 x.2.2.2.1 := by kernel_rfl
theorem w136 (s136 n x) : F136.W Tryz.f136 tabR (cs136 s136 n) n x = o136_0 s136 n (c136_1 s136 n (l136_2 s136 n n)) x.1 x.2.1 x.2.2.1 x.2.2.2.1 := by
  rw [Fn.W_eq, p136_0]; simp only [m136_2 s136 n n]; try rfl
theorem okr136 : ∀ n : Nat, (C136 n).Ok Tryz.prog
  | 0 => okZ (by kernel_rfl) (fun _ => rfl)
  | n + 1 => okOf F136 Tryz.func136 htabR (cs := cs136 (f136 n) n) (by kernel_rfl) (mC ok120 <| mC (okr136 n) <| mC (ok144 n) <| mN) (fun x => ⟨n, w136 (f136 n) n x⟩)
theorem ok136 (n : Nat) : (C136 n).Ok Tryz.prog := (okr136 n)
-- tranship/subst.put
def o123_0 (n : Nat) (k1 : Tm -> Int -> Int -> Int -> Int -> (List Tm) -> (List Tm) -> Bool -> (List Tm) -> Int -> Int -> Option (Tm × Bool)) (a0 : Tm) (a1 : List Tm) (a2 : Bool) : Option (Tm × Bool) :=
  k1 a0 0 0 0 0 a1 ([] : List Tm) a2 a1 (a1.length : Int) 0
def o123_1 (n : Nat) (k2 : Tm -> Int -> Int -> Int -> Int -> (List Tm) -> (List Tm) -> Bool -> Tm -> (List Tm) -> Int -> Int -> Option (Tm × Bool)) (q : Tm) (w y z b : Int) (s p : List Tm) (t : Bool) (u : List Tm) (v r : Int) : Option (Tm × Bool) :=
  ifB (decide (r < v)) ( atI u r fun x1 => (f91 n x1).bind fun x2 => ifB (!x2) ( some ((Tm.mk 0 0 0 0 []), false)) ( (f134 q).bind fun x3 => ifB (!x3) ( ifB (decide ((13 : Int) ≤ x1.kind)) ( some ((Tm.mk 0 0 0 0 []), false)) ( k2 q w y z b s p t x1 u v r)) ( k2 q w y z b s p t x1 u v r))) ( (f136 n (s, p, t, ()) q 0 (decide ((13 : Int) ≤ q.kind))).bind fun x4 => some (x4.1, x4.2))
def o123_2 (n : Nat) (k1 : Tm -> Int -> Int -> Int -> Int -> (List Tm) -> (List Tm) -> Bool -> (List Tm) -> Int -> Int -> Option (Tm × Bool)) (q : Tm) (w y z b : Int) (s p : List Tm) (t : Bool) (c : Tm) (u : List Tm) (v r : Int) : Option (Tm × Bool) :=
  (f135 n c).bind fun x5 => ckB (decide ((p.length + [(Tm.mk 0 0 0 0 [])].length) * 56 ≤ 140737488355328) && decide (p.length + [(Tm.mk 0 0 0 0 [])].length ≤ 9223372036854775807)) <| ckB (decide (0 ≤ (p.length : Int)) && decide ((p.length : Int) < (p ++ [(Tm.mk 0 0 0 0 [])]).length)) <| ckB (decide ((p.length : Int).toNat < (p ++ [(Tm.mk 0 0 0 0 [])]).length)) <| ckI (r + (1 : Int)) <| k1 q w y z b s ((p ++ [(Tm.mk 0 0 0 0 [])]).set (p.length : Int).toNat (Tm.mk x5.kind x5.i x5.j x5.n x5.kids)) t u v (r + (1 : Int))
def c123_2 (n : Nat) (k1 : Tm -> Int -> Int -> Int -> Int -> (List Tm) -> (List Tm) -> Bool -> (List Tm) -> Int -> Int -> Option (Tm × Bool)) (q : Tm) (w y z b : Int) (s p : List Tm) (t : Bool) (c : Tm) (u : List Tm) (v r : Int) : Option (Tm × Bool) :=
  o123_2 n k1 q w y z b s p t c u v r
def l123_1 (n : Nat) : Nat → Tm -> Int -> Int -> Int -> Int -> (List Tm) -> (List Tm) -> Bool -> (List Tm) -> Int -> Int -> Option (Tm × Bool)
  | 0, _, _, _, _, _, _, _, _, _, _, _ => none
  | m + 1, q, w, y, z, b, s, p, t, u, v, r => o123_1 n (c123_2 n (l123_1 n m)) q w y z b s p t u v r
def f123 (n : Nat) (a0 : Tm) (a1 : List Tm) (a2 : Bool) : Option (Tm × Bool) := o123_0 n (l123_1 n n) a0 a1 a2
def F123 : Fn := ⟨123, (.n none [] 0 .z (.n none [] 0 .z (.n none [] 0 (.n none [] 0 .z (.n none [] 0 (.n (some 1) [(3, .ps 0 .tm false), (6, .p 1 [.c, .c, .c, .c, .k]), (8, .p 2 [.d .tm false, .r 3 29 .tm true, .c]), (15, .one (.d .tm false)), (16, .one .c), (17, .one .c)] 4 (.n none [] 0 .z (.n none [] 0 .z (.n none [] 0 (.n none [] 0 (.n none [] 0 .z (.n (some 2) [(3, .ps 0 .tm false), (6, .p 1 [.c, .c, .c, .c, .k]), (8, .p 2 [.d .tm false, .r 3 29 .tm true, .c]), (10, .ps 4 .tm false), (15, .one (.d .tm false)), (16, .one .c), (17, .one .c)] 5 .z .z)) .z) .z))) .z) .z)) .z))), [.cell 6 29, .tmp 7], [.st .tm, .sl .tm, .sc .bool], [.st .tm, .sc .bool], false, true, 56, 4, [1]⟩
def C123 (n : Nat) : Cal := ⟨123, F123.ps, F123.rs, F123.fr, fun a => f123 n a.1 a.2.1 a.2.2.1⟩
def cs123 (n : Nat) : List Cal := [C91 n, C134, C135 n, C136 n]
def st123_1 (q : Tm) (w y z b : Int) (s p : List Tm) (t : Bool) (u : List Tm) (v r : Int) : SS := ⟨[(3, .v (.one (.ptr 0 0))), (6, .v (.one (.ptr 1 0))), (8, .v (.one (.ptr 2 0))), (15, .v (.one (.c (.sl .tm u) false))), (16, .v (.one (.c (.int v) true))), (17, .v (.one (.c (.int r) true)))], [(0, some (.bst .tm q false)), (1, some (.box [.c (.int w) true, .c (.int y) true, .c (.int z) true, .c (.int b) true, .nils])), (2, some (.box [.c (.sl .tm s) false, .arr 3, .c (.bool t) true])), (3, some (.row 29 .tm p true))], 4⟩
theorem p123_1 (n R q w y z b s p t u v r) : F123.Wl Tryz.f123 tabR (cs123 n) R 1 (st123_1 q w y z b s p t u v r) = o123_1 n (c123_2 n (fun q w y z b s p t u v r => R 1 (st123_1 q w y z b s p t u v r))) q w y z b s p t u v r := by kernel_rfl
theorem m123_1 (n) : ∀ m : Nat, (∀ q w y z b s p t u v r, F123.Wm Tryz.f123 tabR (cs123 n) m 1 (st123_1 q w y z b s p t u v r) = l123_1 n m q w y z b s p t u v r) := by
  intro m
  induction m with
  | zero => exact (by intros; rfl)
  | succ m ih => intros; rw [Fn.Wm_succ, p123_1]; simp only [ih]; rfl
theorem p123_0 (n R x) : F123.W0 Tryz.f123 tabR (cs123 n) R x = o123_0 n (fun q w y z b s p t u v r => R 1 (st123_1 q w y z b s p t u v r)) x.1 x.2.1 x.2.2.1 := by kernel_rfl
theorem w123 (n x) : F123.W Tryz.f123 tabR (cs123 n) n x = o123_0 n (l123_1 n n) x.1 x.2.1 x.2.2.1 := by
  rw [Fn.W_eq, p123_0]; simp only [m123_1 n n]; try rfl
theorem ok123 (n : Nat) : (C123 n).Ok Tryz.prog := okOf F123 Tryz.func123 htabR (cs := cs123 n) (by kernel_rfl) (mC (ok91 n) <| mC ok134 <| mC (ok135 n) <| mC (ok136 n) <| mN) (fun x => ⟨n, w123 n x⟩)
-- tranship/subst.Put
def o98_0 (n : Nat) (a0 a1 : Tm) : Option Tm :=
  (f91 n a0).bind fun x1 => ifB (!x1) ( some (Tm.mk 0 0 0 0 [])) ( (f123 n a0 [(Tm.mk a1.kind a1.i a1.j a1.n a1.kids)] true).bind fun x2 => ifB (!x2.2) ( some (Tm.mk 0 0 0 0 [])) ( some x2.1))
def f98 (n : Nat) (a0 a1 : Tm) : Option Tm := o98_0 n a0 a1
def F98 : Fn := ⟨98, .z, [.cell 4 29], [.st .tm, .st .tm], [.st .tm], false, true, 22, 2, []⟩
def C98 (n : Nat) : Cal := ⟨98, F98.ps, F98.rs, F98.fr, fun a => f98 n a.1 a.2.1⟩
def cs98 (n : Nat) : List Cal := [C91 n, C123 n]
theorem w98 (n x) : F98.W Tryz.f98 tabR (cs98 n) 0 x = o98_0 n x.1 x.2.1 := by kernel_rfl
theorem ok98 (n : Nat) : (C98 n).Ok Tryz.prog := okOf F98 Tryz.func98 htabR (cs := cs98 n) (by kernel_rfl) (mC (ok91 n) <| mC (ok123 n) <| mN) (fun x => ⟨0, w98 n x⟩)
-- tranship/transhipref04.lift
def o128_0 (s128 : Tm → Int → Int → Option (Tm × Bool)) (n : Nat) (k2 : Int -> Int -> Tm -> Int -> Int -> Int -> Int -> Int -> Int -> Int -> Int -> Bool -> Option (Tm × Bool)) (a0 : Tm) (a1 a2 : Int) : Option (Tm × Bool) :=
  ifB (decide (a0.kind = (2 : Int))) ( k2 a1 a2 a0 0 0 0 0 a0.kind a0.i a0.j a0.n (decide (a2 ≤ a0.i))) ( k2 a1 a2 a0 0 0 0 0 a0.kind a0.i a0.j a0.n false)
def o128_1 (s128 : Tm → Int → Int → Option (Tm × Bool)) (n : Nat) (k3 : Int -> Int -> Tm -> Int -> Int -> Int -> Int -> Int -> Int -> Int -> Int -> (List Tm) -> Int -> Option (Tm × Bool)) (q r : Int) (p : Tm) (v w y z s b t u : Int) : Option (Tm × Bool) :=
  k3 q r p v w y z s b t u ([] : List Tm) 0
def o128_2 (s128 : Tm → Int → Int → Option (Tm × Bool)) (n : Nat) (k1 : Int -> Int -> Tm -> Int -> Int -> Int -> Int -> Int -> Int -> Int -> Int -> Option (Tm × Bool)) (q r : Int) (p : Tm) (v w y z s b t u : Int) (i : Bool) : Option (Tm × Bool) :=
  ifB i ( ckI ((2147483647 : Int) - p.i) <| ifB (decide (((2147483647 : Int) - p.i) < q)) ( some ((Tm.mk 0 0 0 0 []), false)) ( ckI (p.i + q) <| k1 q r p v w y z s (p.i + q) t u)) ( k1 q r p v w y z s b t u)
def o128_3 (s128 : Tm → Int → Int → Option (Tm × Bool)) (n : Nat) (k4 : Int -> Int -> Tm -> Int -> Int -> Int -> Int -> Int -> Int -> Int -> Int -> (List Tm) -> Int -> Int -> Option (Tm × Bool)) (q r : Int) (p : Tm) (v w y z s b t u : Int) (d : List Tm) (c : Int) : Option (Tm × Bool) :=
  ifB (decide (c < (p.kids.length : Int))) ( (f127 p.kind c).bind fun x1 => ifB (decide ((4611686018427387904 : Int) < r)) ( k4 q r p v w y z s b t u d c 0) ( k4 q r p v w y z s b t u d c x1)) ( some ((Tm.mk s b t u d), true))
def o128_4 (s128 : Tm → Int → Int → Option (Tm × Bool)) (n : Nat) (k3 : Int -> Int -> Tm -> Int -> Int -> Int -> Int -> Int -> Int -> Int -> Int -> (List Tm) -> Int -> Option (Tm × Bool)) (q r : Int) (p : Tm) (v w y z s b t u : Int) (d : List Tm) (c g : Int) : Option (Tm × Bool) :=
  atI p.kids c fun x2 => ckI (r + g) <| (s128 x2 q (r + g)).bind fun x3 => ifB (!x3.2) ( some ((Tm.mk 0 0 0 0 []), false)) ( ckB (decide ((d.length + [(Tm.mk x3.1.kind x3.1.i x3.1.j x3.1.n x3.1.kids)].length) * 56 ≤ 140737488355328) && decide (d.length + [(Tm.mk x3.1.kind x3.1.i x3.1.j x3.1.n x3.1.kids)].length ≤ 9223372036854775807)) <| ckI (c + (1 : Int)) <| k3 q r p v w y z s b t u (d ++ [(Tm.mk x3.1.kind x3.1.i x3.1.j x3.1.n x3.1.kids)]) (c + (1 : Int)))
def c128_1 (s128 : Tm → Int → Int → Option (Tm × Bool)) (n : Nat) (k3 : Int -> Int -> Tm -> Int -> Int -> Int -> Int -> Int -> Int -> Int -> Int -> (List Tm) -> Int -> Option (Tm × Bool)) (q r : Int) (p : Tm) (v w y z s b t u : Int) : Option (Tm × Bool) :=
  o128_1 s128 n k3 q r p v w y z s b t u
def c128_2 (s128 : Tm → Int → Int → Option (Tm × Bool)) (n : Nat) (k3 : Int -> Int -> Tm -> Int -> Int -> Int -> Int -> Int -> Int -> Int -> Int -> (List Tm) -> Int -> Option (Tm × Bool)) (q r : Int) (p : Tm) (v w y z s b t u : Int) (i : Bool) : Option (Tm × Bool) :=
  o128_2 s128 n (c128_1 s128 n k3) q r p v w y z s b t u i
def c128_4 (s128 : Tm → Int → Int → Option (Tm × Bool)) (n : Nat) (k3 : Int -> Int -> Tm -> Int -> Int -> Int -> Int -> Int -> Int -> Int -> Int -> (List Tm) -> Int -> Option (Tm × Bool)) (q r : Int) (p : Tm) (v w y z s b t u : Int) (d : List Tm) (c g : Int) : Option (Tm × Bool) :=
  o128_4 s128 n k3 q r p v w y z s b t u d c g
def l128_3 (s128 : Tm → Int → Int → Option (Tm × Bool)) (n : Nat) : Nat → Int -> Int -> Tm -> Int -> Int -> Int -> Int -> Int -> Int -> Int -> Int -> (List Tm) -> Int -> Option (Tm × Bool)
  | 0, _, _, _, _, _, _, _, _, _, _, _, _, _ => none
  | m + 1, q, r, p, v, w, y, z, s, b, t, u, d, c => o128_3 s128 n (c128_4 s128 n (l128_3 s128 n m)) q r p v w y z s b t u d c
def f128 : Nat → Tm → Int → Int → Option (Tm × Bool)
  | 0, _, _, _ => none
  | n + 1, a0, a1, a2 => o128_0 (f128 n) n (c128_2 (f128 n) n (l128_3 (f128 n) n n)) a0 a1 a2
def F128 : Fn := ⟨128, (.n none [] 0 .z (.n none [] 0 .z (.n (some 1) [(1, .one .c), (2, .one .c), (3, .ps 0 .tm false), (6, .p 1 [.c, .c, .c, .c, .k]), (8, .p 2 [.c, .c, .c, .c, .k])] 3 (.n (some 2) [(1, .one .c), (2, .one .c), (3, .ps 0 .tm false), (6, .p 1 [.c, .c, .c, .c, .k]), (8, .p 2 [.c, .c, .c, .c, .k]), (31, .one .c)] 3 .z .z) (.n none [] 0 .z (.n none [] 0 (.n none [] 0 .z (.n none [] 0 (.n (some 3) [(1, .one .c), (2, .one .c), (3, .ps 0 .tm false), (6, .p 1 [.c, .c, .c, .c, .k]), (8, .p 2 [.c, .c, .c, .c, .k]), (9, .one (.r 3 29 .tm true)), (10, .one .c)] 4 (.n none [] 0 .z (.n none [] 0 (.n none [] 0 (.n none [] 0 .z (.n (some 4) [(1, .one .c), (2, .one .c), (3, .ps 0 .tm false), (6, .p 1 [.c, .c, .c, .c, .k]), (8, .p 2 [.c, .c, .c, .c, .k]), (9, .one (.r 3 29 .tm true)), (10, .one .c), (11, .one .c)] 4 .z .z)) .z) .z)) .z) .z)) .z))))), [.cell 6 29, .tmp 7], [.st .tm, .sc .int, .sc .int], [.st .tm, .sc .bool], false, true, 79, 6, [3]⟩
def C128 (n : Nat) : Cal := ⟨128, F128.ps, F128.rs, F128.fr, fun a => f128 n a.1 a.2.1 a.2.2.1⟩
def cs128 (s128 : Tm → Int → Int → Option (Tm × Bool)) (n : Nat) : List Cal := [C127, ⟨128, [.st .tm, .sc .int, .sc .int], [.st .tm, .sc .bool], true, fun a => s128 a.1 a.2.1 a.2.2.1⟩]
def st128_3 (q r : Int) (p : Tm) (v w y z s b t u : Int) (d : List Tm) (c : Int) : SS := ⟨[(1, .v (.one (.c (.int q) true))), (2, .v (.one (.c (.int r) true))), (3, .v (.one (.ptr 0 0))), (6, .v (.one (.ptr 1 0))), (8, .v (.one (.ptr 2 0))), (9, .v (.one (.arr 3))), (10, .v (.one (.c (.int c) true)))], [(0, some (.bst .tm p false)), (1, some (.box [.c (.int v) true, .c (.int w) true, .c (.int y) true, .c (.int z) true, .nils])), (2, some (.box [.c (.int s) true, .c (.int b) true, .c (.int t) true, .c (.int u) true, .nils])), (3, some (.row 29 .tm d true))], 4⟩
theorem p128_3 (s128 n R q r p v w y z s b t u d c) : F128.Wl Tryz.f128 tabR (cs128 s128 n) R 3 (st128_3 q r p v w y z s b t u d c) = o128_3 s128 n (c128_4 s128 n (fun q r p v w y z s b t u d c => R 3 (st128_3 q r p v w y z s b t u d c))) q r p v w y z s b t u d c := by kernel_rfl
theorem m128_3 (s128 n) : ∀ m : Nat, (∀ q r p v w y z s b t u d c, F128.Wm Tryz.f128 tabR (cs128 s128 n) m 3 (st128_3 q r p v w y z s b t u d c) = l128_3 s128 n m q r p v w y z s b t u d c) := by
  intro m
  induction m with
  | zero => exact (by intros; rfl)
  | succ m ih => intros; rw [Fn.Wm_succ, p128_3]; simp only [ih]; rfl
theorem p128_0 (s128 n R x) : F128.W0 Tryz.f128 tabR (cs128 s128 n) R x = o128_0 s128 n (c128_2 s128 n (fun q r p v w y z s b t u d c => R 3 (st128_3 q r p v w y z s b t u d c))) x.1 x.2.1 x.2.2.1 := by kernel_rfl
theorem w128 (s128 n x) : F128.W Tryz.f128 tabR (cs128 s128 n) n x = o128_0 s128 n (c128_2 s128 n (l128_3 s128 n n)) x.1 x.2.1 x.2.2.1 := by
  rw [Fn.W_eq, p128_0]; simp only [m128_3 s128 n n]; try rfl
theorem okr128 : ∀ n : Nat, (C128 n).Ok Tryz.prog
  | 0 => okZ (by kernel_rfl) (fun _ => rfl)
  | n + 1 => okOf F128 Tryz.func128 htabR (cs := cs128 (f128 n) n) (by kernel_rfl) (mC ok127 <| mC (okr128 n) <| mN) (fun x => ⟨n, w128 (f128 n) n x⟩)
theorem ok128 (n : Nat) : (C128 n).Ok Tryz.prog := (okr128 n)
-- tranship/transhipref04.Lift
def o110_0 (n : Nat) (k1 : Int -> Int -> Tm -> Int -> Int -> Int -> Int -> Option Tm) (a0 : Tm) (a1 a2 : Int) : Option Tm :=
  (f108 n a0).bind fun x1 => ifB (!x1) ( some (Tm.mk 0 0 0 0 [])) ( ifB (decide (a1 < (0 : Int))) ( some (Tm.mk 0 0 0 0 [])) ( ifB (decide (a2 < (0 : Int))) ( some (Tm.mk 0 0 0 0 [])) ( k1 a1 a2 a0 0 0 0 0)))
def o110_1 (n : Nat) (p q : Int) (r : Tm) (s t u v : Int) : Option Tm :=
  (f128 n r p q).bind fun x2 => ifB (!x2.2) ( some (Tm.mk 0 0 0 0 [])) ( some x2.1)
def c110_1 (n : Nat) (p q : Int) (r : Tm) (s t u v : Int) : Option Tm :=
  o110_1 n p q r s t u v
def f110 (n : Nat) (a0 : Tm) (a1 a2 : Int) : Option Tm := o110_0 n (c110_1 n) a0 a1 a2
def F110 : Fn := ⟨110, (.n none [] 0 .z (.n (some 1) [(1, .one .c), (2, .one .c), (3, .ps 0 .tm false), (6, .p 1 [.c, .c, .c, .c, .k])] 2 .z .z)), [.cell 6 29], [.st .tm, .sc .int, .sc .int], [.st .tm], false, true, 32, 3, []⟩
def C110 (n : Nat) : Cal := ⟨110, F110.ps, F110.rs, F110.fr, fun a => f110 n a.1 a.2.1 a.2.2.1⟩
def cs110 (n : Nat) : List Cal := [C108 n, C128 n]
theorem w110 (n x) : F110.W Tryz.f110 tabR (cs110 n) 0 x = o110_0 n (c110_1 n) x.1 x.2.1 x.2.2.1 := by kernel_rfl
theorem ok110 (n : Nat) : (C110 n).Ok Tryz.prog := okOf F110 Tryz.func110 htabR (cs := cs110 n) (by kernel_rfl) (mC (ok108 n) <| mC (ok128 n) <| mN) (fun x => ⟨0, w110 n x⟩)
-- tranship/transhipref04.may
def o129_0 (n : Nat) (a0 a1 : Tm) : Option Bool :=
  (f108 n a1).bind fun x1 => ifB x1 ( ifB (decide (a0.kind = (1 : Int))) ( some true) ( ifB (decide (a0.kind = (2 : Int))) ( some true) ( (f126 n a0).bind fun x2 => ifB x2 ( some true) ( (f106 n a1).bind fun x3 => some x3)))) ( some false)
def f129 (n : Nat) (a0 a1 : Tm) : Option Bool := o129_0 n a0 a1
def F129 : Fn := ⟨129, .z, [.tmp 4], [.st .tm, .st .tm], [.sc .bool], false, true, 25, 2, []⟩
def C129 (n : Nat) : Cal := ⟨129, F129.ps, F129.rs, F129.fr, fun a => f129 n a.1 a.2.1⟩
def cs129 (n : Nat) : List Cal := [C106 n, C108 n, C126 n]
theorem w129 (n x) : F129.W Tryz.f129 tabR (cs129 n) 0 x = o129_0 n x.1 x.2.1 := by kernel_rfl
theorem ok129 (n : Nat) : (C129 n).Ok Tryz.prog := okOf F129 Tryz.func129 htabR (cs := cs129 n) (by kernel_rfl) (mC (ok106 n) <| mC (ok108 n) <| mC (ok126 n) <| mN) (fun x => ⟨0, w129 n x⟩)
-- tranship/transhipref04.strip
def o147_0 (s147 : Tm → Option Tm) (n : Nat) (k1 : Tm -> Int -> Int -> Int -> Int -> Int -> (List Int) -> Option Tm) (a0 : Tm) : Option Tm :=
  ifB (decide (a0.kind = (3 : Int))) ( k1 a0 0 0 0 0 13 [(0 : Int), (1 : Int)]) ( ifB (decide (a0.kind = (4 : Int))) ( k1 a0 0 0 0 0 14 [(0 : Int), (2 : Int)]) ( ifB (decide (a0.kind = (5 : Int))) ( k1 a0 0 0 0 0 15 [(2 : Int), (3 : Int)]) ( ifB (decide (a0.kind = (6 : Int))) ( k1 a0 0 0 0 0 16 [(0 : Int), (1 : Int)]) ( ifB (decide (a0.kind = (7 : Int))) ( k1 a0 0 0 0 0 17 [(0 : Int), (1 : Int), (2 : Int), (3 : Int)]) ( ifB (decide (a0.kind = (8 : Int))) ( k1 a0 0 0 0 0 18 [(2 : Int)]) ( ifB (decide (a0.kind = (9 : Int))) ( k1 a0 0 0 0 0 19 [(2 : Int)]) ( ifB (decide (a0.kind = (10 : Int))) ( k1 a0 0 0 0 0 20 [(0 : Int), (1 : Int), (2 : Int)]) ( ifB (decide (a0.kind = (11 : Int))) ( k1 a0 0 0 0 0 21 [(0 : Int), (1 : Int)]) ( ifB (decide (a0.kind = (12 : Int))) ( atI a0.kids 0 fun x1 => (s147 x1).bind fun x2 => atI a0.kids 1 fun x3 => (s147 x3).bind fun x4 => atI a0.kids 2 fun x5 => atI a0.kids 3 fun x6 => (s147 x6).bind fun x7 => some (Tm.mk 23 a0.i 0 5 [(Tm.mk x2.kind x2.i x2.j x2.n x2.kids), (Tm.mk x4.kind x4.i x4.j x4.n x4.kids), (Tm.mk x5.kind x5.i x5.j x5.n x5.kids), (Tm.mk x7.kind x7.i x7.j x7.n x7.kids)])) ( some a0))))))))))
def o147_1 (s147 : Tm → Option Tm) (n : Nat) (k2 : Tm -> Int -> Int -> Int -> Int -> Int -> (List Int) -> (List Tm) -> Int -> Option Tm) (q : Tm) (t u v w r : Int) (p : List Int) : Option Tm :=
  k2 q t u v w r p ([] : List Tm) 0
def o147_2 (s147 : Tm → Option Tm) (n : Nat) (k2 : Tm -> Int -> Int -> Int -> Int -> Int -> (List Int) -> (List Tm) -> Int -> Option Tm) (q : Tm) (t u v w r : Int) (p : List Int) (y : List Tm) (s : Int) : Option Tm :=
  ifB (decide (s < (p.length : Int))) ( ckB (decide (0 ≤ s) && decide (s < p.length)) <| atN p s.toNat fun x8 => atI q.kids x8 fun x9 => (s147 x9).bind fun x10 => ckB (decide ((y.length + [(Tm.mk x10.kind x10.i x10.j x10.n x10.kids)].length) * 56 ≤ 140737488355328) && decide (y.length + [(Tm.mk x10.kind x10.i x10.j x10.n x10.kids)].length ≤ 9223372036854775807)) <| ckI (s + (1 : Int)) <| k2 q t u v w r p (y ++ [(Tm.mk x10.kind x10.i x10.j x10.n x10.kids)]) (s + (1 : Int))) ( some (Tm.mk r 0 0 0 y))
def c147_1 (s147 : Tm → Option Tm) (n : Nat) (k2 : Tm -> Int -> Int -> Int -> Int -> Int -> (List Int) -> (List Tm) -> Int -> Option Tm) (q : Tm) (t u v w r : Int) (p : List Int) : Option Tm :=
  o147_1 s147 n k2 q t u v w r p
def l147_2 (s147 : Tm → Option Tm) (n : Nat) : Nat → Tm -> Int -> Int -> Int -> Int -> Int -> (List Int) -> (List Tm) -> Int -> Option Tm
  | 0, _, _, _, _, _, _, _, _, _ => none
  | m + 1, q, t, u, v, w, r, p, y, s => o147_2 s147 n (l147_2 s147 n m) q t u v w r p y s
def f147 : Nat → Tm → Option Tm
  | 0, _ => none
  | n + 1, a0 => o147_0 (f147 n) n (c147_1 (f147 n) n (l147_2 (f147 n) n n)) a0
def F147 : Fn := ⟨147, (.n none [] 0 .z (.n none [] 0 .z (.n (some 1) [(1, .ps 0 .tm false), (2, .p 1 [.c, .c, .c, .c, .k]), (3, .one .c), (4, .one (.r 2 3 .int true))] 3 .z (.n none [] 0 .z (.n none [] 0 (.n none [] 0 .z (.n none [] 0 (.n (some 2) [(1, .ps 0 .tm false), (2, .p 1 [.c, .c, .c, .c, .k]), (3, .one .c), (4, .one (.r 2 3 .int true)), (5, .one (.r 3 29 .tm false)), (6, .one .c)] 4 .z .z) .z)) .z))))), [.cell 2 29], [.st .tm], [.st .tm], false, false, 84, 4, [2]⟩
def C147 (n : Nat) : Cal := ⟨147, F147.ps, F147.rs, F147.fr, fun a => f147 n a.1⟩
def cs147 (s147 : Tm → Option Tm) (n : Nat) : List Cal := [⟨147, [.st .tm], [.st .tm], false, fun a => s147 a.1⟩]
def st147_2 (q : Tm) (t u v w r : Int) (p : List Int) (y : List Tm) (s : Int) : SS := ⟨[(1, .v (.one (.ptr 0 0))), (2, .v (.one (.ptr 1 0))), (3, .v (.one (.c (.int r) true))), (4, .v (.one (.arr 2))), (5, .v (.one (.arr 3))), (6, .v (.one (.c (.int s) true)))], [(0, some (.bst .tm q false)), (1, some (.box [.c (.int t) true, .c (.int u) true, .c (.int v) true, .c (.int w) true, .nils])), (2, some (.row 3 .int p true)), (3, some (.row 29 .tm y false))], 4⟩
theorem p147_2 (s147 n R q t u v w r p y s) : F147.Wl Tryz.f147 tabR (cs147 s147 n) R 2 (st147_2 q t u v w r p y s) = o147_2 s147 n (fun q t u v w r p y s => R 2 (st147_2 q t u v w r p y s)) q t u v w r p y s := by kernel_rfl
theorem m147_2 (s147 n) : ∀ m : Nat, (∀ q t u v w r p y s, F147.Wm Tryz.f147 tabR (cs147 s147 n) m 2 (st147_2 q t u v w r p y s) = l147_2 s147 n m q t u v w r p y s) := by
  intro m
  induction m with
  | zero => exact (by intros; rfl)
  | succ m ih => intros; rw [Fn.Wm_succ, p147_2]; simp only [ih]; rfl
theorem p147_0 (s147 n R x) : F147.W0 Tryz.f147 tabR (cs147 s147 n) R x = o147_0 s147 n (c147_1 s147 n (fun q t u v w r p y s => R 2 (st147_2 q t u v w r p y s))) x.1 := by kernel_rfl
theorem w147 (s147 n x) : F147.W Tryz.f147 tabR (cs147 s147 n) n x = o147_0 s147 n (c147_1 s147 n (l147_2 s147 n n)) x.1 := by
  rw [Fn.W_eq, p147_0]; simp only [m147_2 s147 n n]; try rfl
theorem okr147 : ∀ n : Nat, (C147 n).Ok Tryz.prog
  | 0 => okZ (by kernel_rfl) (fun _ => rfl)
  | n + 1 => okOf F147 Tryz.func147 htabR (cs := cs147 (f147 n) n) (by kernel_rfl) (mC (okr147 n) <| mN) (fun x => ⟨n, w147 (f147 n) n x⟩)
theorem ok147 (n : Nat) : (C147 n).Ok Tryz.prog := (okr147 n)
-- tranship/transhipref04.Strip
def o146_0 (n : Nat) (a0 : Tm) : Option Tm :=
  (f126 n a0).bind fun x1 => ifB x1 ( some a0) ( (f106 n a0).bind fun x2 => ifB x2 ( (f147 n a0).bind fun x3 => some x3) ( some (Tm.mk 0 0 0 0 [])))
def f146 (n : Nat) (a0 : Tm) : Option Tm := o146_0 n a0
def F146 : Fn := ⟨146, .z, [.cell 2 29], [.st .tm], [.st .tm], false, false, 13, 2, []⟩
def C146 (n : Nat) : Cal := ⟨146, F146.ps, F146.rs, F146.fr, fun a => f146 n a.1⟩
def cs146 (n : Nat) : List Cal := [C106 n, C126 n, C147 n]
theorem w146 (n x) : F146.W Tryz.f146 tabR (cs146 n) 0 x = o146_0 n x.1 := by kernel_rfl
theorem ok146 (n : Nat) : (C146 n).Ok Tryz.prog := okOf F146 Tryz.func146 htabR (cs := cs146 n) (by kernel_rfl) (mC (ok106 n) <| mC (ok126 n) <| mC (ok147 n) <| mN) (fun x => ⟨0, w146 n x⟩)
-- tranship/transhipref04.raised
def o139_0 (n : Nat) (k1 : Int -> Tm -> Int -> Int -> Int -> Int -> Option (Tm × Bool)) (a0 : Tm) (a1 : Int) (a2 : Bool) : Option (Tm × Bool) :=
  ifB a2 ( (f146 n a0).bind fun x1 => k1 a1 x1 0 0 0 0) ( k1 a1 a0 0 0 0 0)
def o139_1 (n : Nat) (p : Int) (q : Tm) (r s t u : Int) : Option (Tm × Bool) :=
  (f128 n q p 0).bind fun x2 => some (x2.1, x2.2)
def c139_1 (n : Nat) (p : Int) (q : Tm) (r s t u : Int) : Option (Tm × Bool) :=
  o139_1 n p q r s t u
def f139 (n : Nat) (a0 : Tm) (a1 : Int) (a2 : Bool) : Option (Tm × Bool) := o139_0 n (c139_1 n) a0 a1 a2
def F139 : Fn := ⟨139, (.n none [] 0 .z (.n (some 1) [(1, .one .c), (3, .ps 0 .tm false), (6, .p 1 [.c, .c, .c, .c, .k])] 2 .z .z)), [.cell 6 29, .tmp 7], [.st .tm, .sc .int, .sc .bool], [.st .tm, .sc .bool], false, true, 16, 3, []⟩
def C139 (n : Nat) : Cal := ⟨139, F139.ps, F139.rs, F139.fr, fun a => f139 n a.1 a.2.1 a.2.2.1⟩
def cs139 (n : Nat) : List Cal := [C128 n, C146 n]
theorem w139 (n x) : F139.W Tryz.f139 tabR (cs139 n) 0 x = o139_0 n (c139_1 n) x.1 x.2.1 x.2.2.1 := by kernel_rfl
theorem ok139 (n : Nat) : (C139 n).Ok Tryz.prog := okOf F139 Tryz.func139 htabR (cs := cs139 n) (by kernel_rfl) (mC (ok128 n) <| mC (ok146 n) <| mN) (fun x => ⟨0, w139 n x⟩)
-- tranship/transhipref04.plainly
def o140_0 (a0 : Tm) (a1 : Int) : Option Bool :=
  ifB (decide ((12 : Int) < a0.kind)) ( some true) ( ifB (decide (a0.kind = (12 : Int))) ( some (decide (a1 = (2 : Int)))) ( some false))
def f140 (a0 : Tm) (a1 : Int) : Option Bool := o140_0 a0 a1
def F140 : Fn := ⟨140, .z, [.tmp 4], [.st .tm, .sc .int], [.sc .bool], false, true, 17, 2, []⟩
def C140 : Cal := ⟨140, F140.ps, F140.rs, F140.fr, fun a => f140 a.1 a.2.1⟩
def cs140 : List Cal := []
theorem w140 (x) : F140.W Tryz.f140 tabR cs140 0 x = o140_0 x.1 x.2.1 := by kernel_rfl
theorem ok140 : C140.Ok Tryz.prog := okOf F140 Tryz.func140 htabR (cs := cs140) (by kernel_rfl) (mN) (fun x => ⟨0, w140 x⟩)
-- tranship/transhipref04.put
def o130_0 (s130 : Tm → Tm → Int → Bool → Option (Tm × Bool)) (n : Nat) (k1 : Int -> Bool -> Tm -> Tm -> Int -> Int -> Int -> Int -> Int -> Int -> Int -> Int -> (List Tm) -> Int -> Option (Tm × Bool)) (a0 a1 : Tm) (a2 : Int) (a3 : Bool) : Option (Tm × Bool) :=
  ifB (decide (a0.kind = (2 : Int))) ( ifB (decide (a0.i = a2)) ( (f139 n a1 a2 a3).bind fun x1 => some (x1.1, x1.2)) ( ifB (decide (a2 < a0.i)) ( ckI (a0.i - (1 : Int)) <| some ((Tm.mk 2 (a0.i - (1 : Int)) 0 0 ([] : List Tm)), true)) ( some (a0, true)))) ( k1 a2 a3 a0 a1 0 0 0 0 a0.kind a0.i a0.j a0.n ([] : List Tm) 0)
def o130_1 (s130 : Tm → Tm → Int → Bool → Option (Tm × Bool)) (n : Nat) (k2 : Int -> Bool -> Tm -> Tm -> Int -> Int -> Int -> Int -> Int -> Int -> Int -> Int -> (List Tm) -> Int -> Tm -> Bool -> Option (Tm × Bool)) (r : Int) (u : Bool) (q t : Tm) (b c d g v w y z : Int) (s : List Tm) (p : Int) : Option (Tm × Bool) :=
  ifB (decide (p < (q.kids.length : Int))) ( atI q.kids p fun x2 => (f127 q.kind p).bind fun x3 => ckI (r + x3) <| ifB u ( (s130 x2 t (r + x3) true).bind fun x4 => k2 r u q t b c d g v w y z s p x4.1 x4.2) ( (f140 q p).bind fun x5 => (s130 x2 t (r + x3) x5).bind fun x6 => k2 r u q t b c d g v w y z s p x6.1 x6.2)) ( some ((Tm.mk v w y z s), true))
def o130_2 (s130 : Tm → Tm → Int → Bool → Option (Tm × Bool)) (n : Nat) (k1 : Int -> Bool -> Tm -> Tm -> Int -> Int -> Int -> Int -> Int -> Int -> Int -> Int -> (List Tm) -> Int -> Option (Tm × Bool)) (r : Int) (u : Bool) (q t : Tm) (b c d g v w y z : Int) (s : List Tm) (p : Int) (i : Tm) (j : Bool) : Option (Tm × Bool) :=
  ifB (!j) ( some ((Tm.mk 0 0 0 0 []), false)) ( ckB (decide ((s.length + [(Tm.mk i.kind i.i i.j i.n i.kids)].length) * 56 ≤ 140737488355328) && decide (s.length + [(Tm.mk i.kind i.i i.j i.n i.kids)].length ≤ 9223372036854775807)) <| ckI (p + (1 : Int)) <| k1 r u q t b c d g v w y z (s ++ [(Tm.mk i.kind i.i i.j i.n i.kids)]) (p + (1 : Int)))
def c130_2 (s130 : Tm → Tm → Int → Bool → Option (Tm × Bool)) (n : Nat) (k1 : Int -> Bool -> Tm -> Tm -> Int -> Int -> Int -> Int -> Int -> Int -> Int -> Int -> (List Tm) -> Int -> Option (Tm × Bool)) (r : Int) (u : Bool) (q t : Tm) (b c d g v w y z : Int) (s : List Tm) (p : Int) (i : Tm) (j : Bool) : Option (Tm × Bool) :=
  o130_2 s130 n k1 r u q t b c d g v w y z s p i j
def l130_1 (s130 : Tm → Tm → Int → Bool → Option (Tm × Bool)) (n : Nat) : Nat → Int -> Bool -> Tm -> Tm -> Int -> Int -> Int -> Int -> Int -> Int -> Int -> Int -> (List Tm) -> Int -> Option (Tm × Bool)
  | 0, _, _, _, _, _, _, _, _, _, _, _, _, _, _ => none
  | m + 1, r, u, q, t, b, c, d, g, v, w, y, z, s, p => o130_1 s130 n (c130_2 s130 n (l130_1 s130 n m)) r u q t b c d g v w y z s p
def f130 : Nat → Tm → Tm → Int → Bool → Option (Tm × Bool)
  | 0, _, _, _, _ => none
  | n + 1, a0, a1, a2, a3 => o130_0 (f130 n) n (l130_1 (f130 n) n n) a0 a1 a2 a3
def F130 : Fn := ⟨130, (.n none [] 0 .z (.n none [] 0 .z (.n none [] 0 .z (.n none [] 0 .z (.n none [] 0 (.n none [] 0 .z (.n none [] 0 (.n (some 1) [(2, .one .c), (3, .one .c), (4, .ps 0 .tm false), (5, .ps 1 .tm false), (8, .p 2 [.c, .c, .c, .c, .k]), (10, .p 3 [.c, .c, .c, .c, .k]), (11, .one (.r 4 29 .tm false)), (12, .one .c)] 5 (.n none [] 0 .z (.n none [] 0 (.n none [] 0 (.n (some 2) [(2, .one .c), (3, .one .c), (4, .ps 0 .tm false), (5, .ps 1 .tm false), (8, .p 2 [.c, .c, .c, .c, .k]), (10, .p 3 [.c, .c, .c, .c, .k]), (11, .one (.r 4 29 .tm false)), (12, .one .c), (13, .ps 5 .tm false), (14, .one .c)] 6 .z .z) .z) .z)) .z) .z)) .z))))), [.cell 8 29, .tmp 9], [.st .tm, .st .tm, .sc .int, .sc .bool], [.st .tm, .sc .bool], false, false, 85, 4, [1]⟩
def C130 (n : Nat) : Cal := ⟨130, F130.ps, F130.rs, F130.fr, fun a => f130 n a.1 a.2.1 a.2.2.1 a.2.2.2.1⟩
def cs130 (s130 : Tm → Tm → Int → Bool → Option (Tm × Bool)) (n : Nat) : List Cal := [C127, ⟨130, [.st .tm, .st .tm, .sc .int, .sc .bool], [.st .tm, .sc .bool], false, fun a => s130 a.1 a.2.1 a.2.2.1 a.2.2.2.1⟩, C139 n, C140]
def st130_1 (r : Int) (u : Bool) (q t : Tm) (b c d g v w y z : Int) (s : List Tm) (p : Int) : SS := ⟨[(2, .v (.one (.c (.int r) true))), (3, .v (.one (.c (.bool u) true))), (4, .v (.one (.ptr 0 0))), (5, .v (.one (.ptr 1 0))), (8, .v (.one (.ptr 2 0))), (10, .v (.one (.ptr 3 0))), (11, .v (.one (.arr 4))), (12, .v (.one (.c (.int p) true)))], [(0, some (.bst .tm q false)), (1, some (.bst .tm t false)), (2, some (.box [.c (.int b) true, .c (.int c) true, .c (.int d) true, .c (.int g) true, .nils])), (3, some (.box [.c (.int v) true, .c (.int w) true, .c (.int y) true, .c (.int z) true, .nils])), (4, some (.row 29 .tm s false))], 5⟩
theorem p130_1 (s130 n R r u q t b c d g v w y z s p) : F130.Wl Tryz.f130 tabR (cs130 s130 n) R 1 (st130_1 r u q t b c d g v w y z s p) = o130_1 s130 n (c130_2 s130 n (fun r u q t b c d g v w y z s p => R 1 (st130_1 r u q t b c d g v w y z s p))) r u q t b c d g v w y z s p := by kernel_rfl
theorem m130_1 (s130 n) : ∀ m : Nat, (∀ r u q t b c d g v w y z s p, F130.Wm Tryz.f130 tabR (cs130 s130 n) m 1 (st130_1 r u q t b c d g v w y z s p) = l130_1 s130 n m r u q t b c d g v w y z s p) := by
  intro m
  induction m with
  | zero => exact (by intros; rfl)
  | succ m ih => intros; rw [Fn.Wm_succ, p130_1]; simp only [ih]; rfl
theorem p130_0 (s130 n R x) : F130.W0 Tryz.f130 tabR (cs130 s130 n) R x = o130_0 s130 n (fun r u q t b c d g v w y z s p => R 1 (st130_1 r u q t b c d g v w y z s p)) x.1 x.2.1 x.2.2.1 x.2.2.2.1 := by kernel_rfl
theorem w130 (s130 n x) : F130.W Tryz.f130 tabR (cs130 s130 n) n x = o130_0 s130 n (l130_1 s130 n n) x.1 x.2.1 x.2.2.1 x.2.2.2.1 := by
  rw [Fn.W_eq, p130_0]; simp only [m130_1 s130 n n]; try rfl
theorem okr130 : ∀ n : Nat, (C130 n).Ok Tryz.prog
  | 0 => okZ (by kernel_rfl) (fun _ => rfl)
  | n + 1 => okOf F130 Tryz.func130 htabR (cs := cs130 (f130 n) n) (by kernel_rfl) (mC ok127 <| mC (okr130 n) <| mC (ok139 n) <| mC ok140 <| mN) (fun x => ⟨n, w130 (f130 n) n x⟩)
theorem ok130 (n : Nat) : (C130 n).Ok Tryz.prog := (okr130 n)
-- tranship/transhipref04.Put
def o113_0 (n : Nat) (k1 : Tm -> Tm -> Int -> Int -> Int -> Int -> Option Tm) (a0 a1 : Tm) : Option Tm :=
  (f108 n a0).bind fun x1 => ifB (!x1) ( some (Tm.mk 0 0 0 0 [])) ( (f129 n a0 a1).bind fun x2 => ifB (!x2) ( some (Tm.mk 0 0 0 0 [])) ( k1 a0 a1 0 0 0 0))
def o113_1 (n : Nat) (p q : Tm) (r s t u : Int) : Option Tm :=
  (f130 n p q 0 false).bind fun x3 => ifB (!x3.2) ( some (Tm.mk 0 0 0 0 [])) ( some x3.1)
def c113_1 (n : Nat) (p q : Tm) (r s t u : Int) : Option Tm :=
  o113_1 n p q r s t u
def f113 (n : Nat) (a0 a1 : Tm) : Option Tm := o113_0 n (c113_1 n) a0 a1
def F113 : Fn := ⟨113, (.n none [] 0 .z (.n (some 1) [(2, .ps 0 .tm false), (3, .ps 1 .tm false), (4, .p 2 [.c, .c, .c, .c, .k])] 3 .z .z)), [.cell 4 29], [.st .tm, .st .tm], [.st .tm], false, false, 27, 3, []⟩
def C113 (n : Nat) : Cal := ⟨113, F113.ps, F113.rs, F113.fr, fun a => f113 n a.1 a.2.1⟩
def cs113 (n : Nat) : List Cal := [C108 n, C129 n, C130 n]
theorem w113 (n x) : F113.W Tryz.f113 tabR (cs113 n) 0 x = o113_0 n (c113_1 n) x.1 x.2.1 := by kernel_rfl
theorem ok113 (n : Nat) : (C113 n).Ok Tryz.prog := okOf F113 Tryz.func113 htabR (cs := cs113 n) (by kernel_rfl) (mC (ok108 n) <| mC (ok129 n) <| mC (ok130 n) <| mN) (fun x => ⟨0, w113 n x⟩)
end Go.Proofs.YtcaahmielncmpaaGreat
