/-
  What checking computes.
-/
import Derived.Test.YtcaahmielncmpaaGreatGenR
import Derived.Test.YtcaahmielncmpaaGreatGenQ
set_option linter.unusedSimpArgs false
set_option linter.unusedVariables false
namespace Go.Proofs.YtcaahmielncmpaaGreat
open Go Go.RowKit
set_option maxRecDepth 100000
-- tranship/budget.Within
def o84_0 (a0 : Int) (a1 : Nat) : Option Bool :=
  some (fLe (fOf a0) a1)
def f84 (a0 : Int) (a1 : Nat) : Option Bool := o84_0 a0 a1
def F84 : Fn := ⟨84, .z, [.tmp 4], [.sc .int, .sc .flt], [.sc .bool], false, true, 9, 2, []⟩
def C84 : Cal := ⟨84, F84.ps, F84.rs, F84.fr, fun a => f84 a.1 a.2.1⟩
def cs84 : List Cal := []
theorem w84 (x) : F84.W Tryz.f84 tabR cs84 0 x = o84_0 x.1 x.2.1 := by kernel_rfl
theorem ok84 : C84.Ok Tryz.prog := okOf F84 Tryz.func84 htabR (cs := cs84) (by kernel_rfl) (mN) (fun x => ⟨0, w84 x⟩)
-- tranship/check.judge
def o47_0 (s47 : (List Ent) → Dv → Nat → Option (Jd × (Option (Int × List Int)))) (n : Nat) (k1 : (List Ent) -> Nat -> Dv -> Bool -> Int -> Int -> Int -> Int -> Int -> Int -> Int -> Int -> Int -> Int -> Int -> Int -> Int -> (List Jd) -> (List Dv) -> Int -> Int -> Option (Jd × (Option (Int × List Int)))) (a0 : List Ent) (a1 : Dv) (a2 : Nat) : Option (Jd × (Option (Int × List Int))) :=
  ckB (decide (0 ≤ (0 : Int)) && (decide ((0 : Int) ≤ (a1.kids.length : Int)) && decide ((184 : Nat) * (a1.kids.length : Int) ≤ 281474976710656))) <| k1 a0 a2 a1 false 0 0 0 0 0 0 0 0 0 0 0 0 0 (List.replicate (0 : Int).toNat (Jd.mk false (Tm.mk 0 0 0 0 []) (Tm.mk 0 0 0 0 []) (Tm.mk 0 0 0 0 []) 0)) a1.kids (a1.kids.length : Int) 0
def o47_1 (s47 : (List Ent) → Dv → Nat → Option (Jd × (Option (Int × List Int)))) (n : Nat) (k1 : (List Ent) -> Nat -> Dv -> Bool -> Int -> Int -> Int -> Int -> Int -> Int -> Int -> Int -> Int -> Int -> Int -> Int -> Int -> (List Jd) -> (List Dv) -> Int -> Int -> Option (Jd × (Option (Int × List Int)))) (k2 : Nat -> Bool -> Int -> Int -> Int -> Int -> Int -> Int -> Int -> Int -> Int -> Int -> Int -> Int -> Int -> Jd -> Int -> Option (Jd × (Option (Int × List Int)))) (A : List Ent) (p : Nat) (o : Dv) (r : Bool) (s t u v w y z b c d g i j : Int) (l : List Jd) (B : List Dv) (C q : Int) : Option (Jd × (Option (Int × List Int))) :=
  ifB (decide (q < C)) ( atI B q fun x1 => (f44 n A o.rule q l).bind fun x2 => ifB (!x2.2) ( some ((Jd.mk false (Tm.mk 0 0 0 0 []) (Tm.mk 0 0 0 0 []) (Tm.mk 0 0 0 0 []) 0), some ((3 : Int), []))) ( (s47 x2.1 x1 p).bind fun x3 => ifB x3.2.isSome ( thO x3.2 fun x4 => ckB (decide ((x4.2.length + [q].length) * 8 ≤ 140737488355328) && decide (x4.2.length + [q].length ≤ 9223372036854775807)) <| some ((Jd.mk false (Tm.mk 0 0 0 0 []) (Tm.mk 0 0 0 0 []) (Tm.mk 0 0 0 0 []) 0), some (x4.1, (x4.2 ++ [q])))) ( ckB (decide ((l.length + [(Jd.mk x3.1.eq (Tm.mk x3.1.u.kind x3.1.u.i x3.1.u.j x3.1.u.n x3.1.u.kids) (Tm.mk x3.1.v.kind x3.1.v.i x3.1.v.j x3.1.v.n x3.1.v.kids) (Tm.mk x3.1.a.kind x3.1.a.i x3.1.a.j x3.1.a.n x3.1.a.kids) x3.1.i)].length) * 184 ≤ 140737488355328) && decide (l.length + [(Jd.mk x3.1.eq (Tm.mk x3.1.u.kind x3.1.u.i x3.1.u.j x3.1.u.n x3.1.u.kids) (Tm.mk x3.1.v.kind x3.1.v.i x3.1.v.j x3.1.v.n x3.1.v.kids) (Tm.mk x3.1.a.kind x3.1.a.i x3.1.a.j x3.1.a.n x3.1.a.kids) x3.1.i)].length ≤ 9223372036854775807)) <| ckI (q + (1 : Int)) <| k1 A p o r s t u v w y z b c d g i j (l ++ [(Jd.mk x3.1.eq (Tm.mk x3.1.u.kind x3.1.u.i x3.1.u.j x3.1.u.n x3.1.u.kids) (Tm.mk x3.1.v.kind x3.1.v.i x3.1.v.j x3.1.v.n x3.1.v.kids) (Tm.mk x3.1.a.kind x3.1.a.i x3.1.a.j x3.1.a.n x3.1.a.kids) x3.1.i)]) B C (q + (1 : Int))))) ( (f9 n A o.rule o.i l).bind fun x5 => ifB (!x5.2) ( some ((Jd.mk false (Tm.mk 0 0 0 0 []) (Tm.mk 0 0 0 0 []) (Tm.mk 0 0 0 0 []) 0), some ((3 : Int), []))) ( (f83 n x5.1.u).bind fun x6 => (f83 n x5.1.a).bind fun x7 => ckI (x6 + x7) <| ifB x5.1.eq ( (f83 n x5.1.v).bind fun x8 => ckI ((x6 + x7) + x8) <| k2 p r s t u v w y z b c d g i j x5.1 ((x6 + x7) + x8)) ( k2 p r s t u v w y z b c d g i j x5.1 (x6 + x7))))
def o47_2 (s47 : (List Ent) → Dv → Nat → Option (Jd × (Option (Int × List Int)))) (n : Nat) (p : Nat) (r : Bool) (s t u v w y z b c d g i j : Int) (D : Jd) (E : Int) : Option (Jd × (Option (Int × List Int))) :=
  (f84 E p).bind fun x9 => ifB (!x9) ( some ((Jd.mk false (Tm.mk 0 0 0 0 []) (Tm.mk 0 0 0 0 []) (Tm.mk 0 0 0 0 []) 0), some ((4 : Int), []))) ( some (D, none))
def c47_2 (s47 : (List Ent) → Dv → Nat → Option (Jd × (Option (Int × List Int)))) (n : Nat) (p : Nat) (r : Bool) (s t u v w y z b c d g i j : Int) (D : Jd) (E : Int) : Option (Jd × (Option (Int × List Int))) :=
  o47_2 s47 n p r s t u v w y z b c d g i j D E
def l47_1 (s47 : (List Ent) → Dv → Nat → Option (Jd × (Option (Int × List Int)))) (n : Nat) : Nat → (List Ent) -> Nat -> Dv -> Bool -> Int -> Int -> Int -> Int -> Int -> Int -> Int -> Int -> Int -> Int -> Int -> Int -> Int -> (List Jd) -> (List Dv) -> Int -> Int -> Option (Jd × (Option (Int × List Int)))
  | 0, _, _, _, _, _, _, _, _, _, _, _, _, _, _, _, _, _, _, _, _, _ => none
  | m + 1, A, p, o, r, s, t, u, v, w, y, z, b, c, d, g, i, j, l, B, C, q => o47_1 s47 n (l47_1 s47 n m) (c47_2 s47 n) A p o r s t u v w y z b c d g i j l B C q
def f47 : Nat → (List Ent) → Dv → Nat → Option (Jd × (Option (Int × List Int)))
  | 0, _, _, _ => none
  | n + 1, a0, a1, a2 => o47_0 (f47 n) n (l47_1 (f47 n) n n) a0 a1 a2
def F47 : Fn := ⟨47, (.n none [] 0 .z (.n none [] 0 .z (.n none [] 0 (.n none [] 0 .z (.n none [] 0 (.n (some 1) [(0, .one (.d .ent false)), (2, .one .c), (4, .ps 0 .dv false), (6, .p 1 [.c, .c, .c, .c, .c, .k, .c, .c, .c, .c, .k, .c, .c, .c, .c, .k, .c]), (8, .one (.r 2 31 .jd true)), (23, .one (.d .dv false)), (24, .one .c), (25, .one .c)] 3 (.n none [] 0 .z (.n none [] 0 .z (.n none [] 0 (.n none [] 0 (.n none [] 0 .z (.n none [] 0 .z (.n none [] 0 .z (.n none [] 0 .z (.n none [] 0 (.n none [] 0 .z (.n none [(14, .o)] 0 .z .z)) .z))))) .z) .z))) .z) .z)) (.n none [] 0 .z (.n none [] 0 .z (.n none [] 0 .z (.n (some 2) [(2, .one .c), (6, .p 0 [.c, .c, .c, .c, .c, .k, .c, .c, .c, .c, .k, .c, .c, .c, .c, .k, .c]), (15, .ps 1 .jd true), (17, .one .c)] 2 .z .z))))))), [.cell 6 31, .tmp 7], [.sl .ent, .st .dv, .sc .flt], [.st .jd, .fb], false, true, 107, 4, [1]⟩
def C47 (n : Nat) : Cal := ⟨47, F47.ps, F47.rs, F47.fr, fun a => f47 n a.1 a.2.1 a.2.2.1⟩
def cs47 (s47 : (List Ent) → Dv → Nat → Option (Jd × (Option (Int × List Int)))) (n : Nat) : List Cal := [C9 n, C44 n, ⟨47, [.sl .ent, .st .dv, .sc .flt], [.st .jd, .fb], true, fun a => s47 a.1 a.2.1 a.2.2.1⟩, C83 n, C84]
def st47_1 (A : List Ent) (p : Nat) (o : Dv) (r : Bool) (s t u v w y z b c d g i j : Int) (l : List Jd) (B : List Dv) (C q : Int) : SS := ⟨[(0, .v (.one (.c (.sl .ent A) false))), (2, .v (.one (.c (.flt p) true))), (4, .v (.one (.ptr 0 0))), (6, .v (.one (.ptr 1 0))), (8, .v (.one (.arr 2))), (23, .v (.one (.c (.sl .dv B) false))), (24, .v (.one (.c (.int C) true))), (25, .v (.one (.c (.int q) true)))], [(0, some (.bst .dv o false)), (1, some (.box [.c (.bool r) true, .c (.int s) true, .c (.int t) true, .c (.int u) true, .c (.int v) true, .nils, .c (.int w) true, .c (.int y) true, .c (.int z) true, .c (.int b) true, .nils, .c (.int c) true, .c (.int d) true, .c (.int g) true, .c (.int i) true, .nils, .c (.int j) true])), (2, some (.row 31 .jd l true))], 3⟩
theorem p47_1 (s47 n R A p o r s t u v w y z b c d g i j l B C q) : F47.Wl Tryz.f47 tabR (cs47 s47 n) R 1 (st47_1 A p o r s t u v w y z b c d g i j l B C q) = o47_1 s47 n (fun A p o r s t u v w y z b c d g i j l B C q => R 1 (st47_1 A p o r s t u v w y z b c d g i j l B C q)) (c47_2 s47 n) A p o r s t u v w y z b c d g i j l B C q := by kernel_rfl
theorem m47_1 (s47 n) : ∀ m : Nat, (∀ A p o r s t u v w y z b c d g i j l B C q, F47.Wm Tryz.f47 tabR (cs47 s47 n) m 1 (st47_1 A p o r s t u v w y z b c d g i j l B C q) = l47_1 s47 n m A p o r s t u v w y z b c d g i j l B C q) := by
  intro m
  induction m with
  | zero => exact (by intros; rfl)
  | succ m ih => intros; rw [Fn.Wm_succ, p47_1]; simp only [ih]; rfl
theorem p47_0 (s47 n R x) : F47.W0 Tryz.f47 tabR (cs47 s47 n) R x = o47_0 s47 n (fun A p o r s t u v w y z b c d g i j l B C q => R 1 (st47_1 A p o r s t u v w y z b c d g i j l B C q)) x.1 x.2.1 x.2.2.1 := by kernel_rfl
theorem w47 (s47 n x) : F47.W Tryz.f47 tabR (cs47 s47 n) n x = o47_0 s47 n (l47_1 s47 n n) x.1 x.2.1 x.2.2.1 := by
  rw [Fn.W_eq, p47_0]; simp only [m47_1 s47 n n]; try rfl
theorem okr47 : ∀ n : Nat, (C47 n).Ok Tryz.prog
  | 0 => okZ (by kernel_rfl) (fun _ => rfl)
  | n + 1 => okOf F47 Tryz.func47 htabR (cs := cs47 (f47 n) n) (by kernel_rfl) (mC (ok9 n) <| mC (ok44 n) <| mC (okr47 n) <| mC (ok83 n) <| mC ok84 <| mN) (fun x => ⟨n, w47 (f47 n) n x⟩)
theorem ok47 (n : Nat) : (C47 n).Ok Tryz.prog := (okr47 n)
-- (*tranship/check.fault).path
def o48_0 (n : Nat) (k1 : Int -> (List Int) -> (List Int) -> Int -> Option ((List Int))) (a0 : Int × List Int × Unit) : Option ((List Int)) :=
  ckI ((a0.2.1.length : Int) - (1 : Int)) <| k1 a0.1 a0.2.1 ([] : List Int) ((a0.2.1.length : Int) - (1 : Int))
def o48_1 (n : Nat) (k1 : Int -> (List Int) -> (List Int) -> Int -> Option ((List Int))) (s : Int) (r p : List Int) (q : Int) : Option ((List Int)) :=
  ifB (decide ((0 : Int) ≤ q)) ( atI r q fun x1 => ckB (decide ((p.length + [x1].length) * 8 ≤ 140737488355328) && decide (p.length + [x1].length ≤ 9223372036854775807)) <| ckI (q - (1 : Int)) <| k1 s r (p ++ [x1]) (q - (1 : Int))) ( some p)
def l48_1 (n : Nat) : Nat → Int -> (List Int) -> (List Int) -> Int -> Option ((List Int))
  | 0, _, _, _, _ => none
  | m + 1, s, r, p, q => o48_1 n (l48_1 n m) s r p q
def f48 (n : Nat) (a0 : Int × List Int × Unit) : Option ((List Int)) := o48_0 n (l48_1 n n) a0
def F48 : Fn := ⟨48, (.n none [] 0 .z (.n none [] 0 .z (.n none [] 0 (.n none [] 0 .z (.n none [] 0 (.n (some 1) [(0, .one .k), (3, .one (.r 0 3 .int true)), (4, .one .c)] 1 .z .z) .z)) .z))), [.tmp 2], [.ro [(false, .int), (true, .int)]], [.sl .int], false, true, 26, 3, [1]⟩
def C48 (n : Nat) : Cal := ⟨48, F48.ps, F48.rs, F48.fr, fun a => f48 n a.1⟩
def cs48 (n : Nat) : List Cal := []
def st48_1 (s : Int) (r p : List Int) (q : Int) : SS := ⟨[(0, .v (.one (.rc [.int s, .sl .int r]))), (3, .v (.one (.arr 0))), (4, .v (.one (.c (.int q) true)))], [(0, some (.row 3 .int p true))], 1⟩
theorem p48_1 (n R s r p q) : F48.Wl Tryz.f48 tabR (cs48 n) R 1 (st48_1 s r p q) = o48_1 n (fun s r p q => R 1 (st48_1 s r p q)) s r p q := by kernel_rfl
theorem m48_1 (n) : ∀ m : Nat, (∀ s r p q, F48.Wm Tryz.f48 tabR (cs48 n) m 1 (st48_1 s r p q) = l48_1 n m s r p q) := by
  intro m
  induction m with
  | zero => exact (by intros; rfl)
  | succ m ih => intros; rw [Fn.Wm_succ, p48_1]; simp only [ih]; rfl
theorem p48_0 (n R x) : F48.W0 Tryz.f48 tabR (cs48 n) R x = o48_0 n (fun s r p q => R 1 (st48_1 s r p q)) x.1 := by kernel_rfl
theorem w48 (n x) : F48.W Tryz.f48 tabR (cs48 n) n x = o48_0 n (l48_1 n n) x.1 := by
  rw [Fn.W_eq, p48_0]; simp only [m48_1 n n]; try rfl
theorem ok48 (n : Nat) : (C48 n).Ok Tryz.prog := okOf F48 Tryz.func48 htabR (cs := cs48 n) (by kernel_rfl) (mN) (fun x => ⟨n, w48 n x⟩)
-- tranship/check.Judge
def o17_0 (n : Nat) (k1 : (List Ent) -> Nat -> Dv -> Bool -> Int -> Int -> Int -> Int -> Int -> Int -> Int -> Int -> Int -> Int -> Int -> Int -> Int -> Option (Jd × Int × (List Int))) (a0 : List Ent) (a1 : Dv) (a2 : Nat) : Option (Jd × Int × (List Int)) :=
  (f44 n a0 13 0 ([] : List Jd)).bind fun x1 => ifB (!x1.2) ( some ((Jd.mk false (Tm.mk 0 0 0 0 []) (Tm.mk 0 0 0 0 []) (Tm.mk 0 0 0 0 []) 0), (1 : Int), ([] : List Int))) ( (f46 n a1).bind fun x2 => ifB (!x2) ( some ((Jd.mk false (Tm.mk 0 0 0 0 []) (Tm.mk 0 0 0 0 []) (Tm.mk 0 0 0 0 []) 0), (1 : Int), ([] : List Int))) ( k1 a0 a2 a1 false 0 0 0 0 0 0 0 0 0 0 0 0 0))
def o17_1 (n : Nat) (p : List Ent) (q : Nat) (r : Dv) (s : Bool) (t u v w y z b c d g i j l : Int) : Option (Jd × Int × (List Int)) :=
  (f47 n p r q).bind fun x3 => ifB x3.2.isSome ( thO x3.2 fun x4 => (f48 n (x4.1, x4.2, ())).bind fun x5 => some ((Jd.mk false (Tm.mk 0 0 0 0 []) (Tm.mk 0 0 0 0 []) (Tm.mk 0 0 0 0 []) 0), x4.1, x5)) ( some (x3.1, (0 : Int), ([] : List Int)))
def c17_1 (n : Nat) (p : List Ent) (q : Nat) (r : Dv) (s : Bool) (t u v w y z b c d g i j l : Int) : Option (Jd × Int × (List Int)) :=
  o17_1 n p q r s t u v w y z b c d g i j l
def f17 (n : Nat) (a0 : List Ent) (a1 : Dv) (a2 : Nat) : Option (Jd × Int × (List Int)) := o17_0 n (c17_1 n) a0 a1 a2
def F17 : Fn := ⟨17, (.n none [] 0 .z (.n none [] 0 .z (.n (some 1) [(0, .one (.d .ent false)), (2, .one .c), (4, .ps 0 .dv false), (6, .p 1 [.c, .c, .c, .c, .c, .k, .c, .c, .c, .c, .k, .c, .c, .c, .c, .k, .c])] 2 .z (.n none [] 0 .z (.n none [] 0 (.n none [] 0 .z (.n none [(12, .o)] 0 .z .z)) .z))))), [.cell 6 31, .tmp 7, .tmp 8], [.sl .ent, .st .dv, .sc .flt], [.st .jd, .sc .int, .sl .int], false, true, 43, 3, []⟩
def C17 (n : Nat) : Cal := ⟨17, F17.ps, F17.rs, F17.fr, fun a => f17 n a.1 a.2.1 a.2.2.1⟩
def cs17 (n : Nat) : List Cal := [C44 n, C46 n, C47 n, C48 n]
theorem w17 (n x) : F17.W Tryz.f17 tabR (cs17 n) 0 x = o17_0 n (c17_1 n) x.1 x.2.1 x.2.2.1 := by kernel_rfl
theorem ok17 (n : Nat) : (C17 n).Ok Tryz.prog := okOf F17 Tryz.func17 htabR (cs := cs17 n) (by kernel_rfl) (mC (ok44 n) <| mC (ok46 n) <| mC (ok47 n) <| mC (ok48 n) <| mN) (fun x => ⟨0, w17 n x⟩)
-- tranship/transhipref01.Within
def o86_0 (a0 : Int) (a1 : Nat) : Option Bool :=
  some (fLe (fOf a0) a1)
def f86 (a0 : Int) (a1 : Nat) : Option Bool := o86_0 a0 a1
def F86 : Fn := ⟨86, .z, [.tmp 4], [.sc .int, .sc .flt], [.sc .bool], false, true, 9, 2, []⟩
def C86 : Cal := ⟨86, F86.ps, F86.rs, F86.fr, fun a => f86 a.1 a.2.1⟩
def cs86 : List Cal := []
theorem w86 (x) : F86.W Tryz.f86 tabR cs86 0 x = o86_0 x.1 x.2.1 := by kernel_rfl
theorem ok86 : C86.Ok Tryz.prog := okOf F86 Tryz.func86 htabR (cs := cs86) (by kernel_rfl) (mN) (fun x => ⟨0, w86 x⟩)
-- tranship/transhipref11.measure
def o87_0 (n : Nat) (a0 : Jd) : Option Int :=
  (f117 n a0.u).bind fun x1 => (f117 n a0.a).bind fun x2 => ckI (x1 + x2) <| ifB a0.eq ( (f117 n a0.v).bind fun x3 => ckI ((x1 + x2) + x3) <| some ((x1 + x2) + x3)) ( some (x1 + x2))
def f87 (n : Nat) (a0 : Jd) : Option Int := o87_0 n a0
def F87 : Fn := ⟨87, .z, [.tmp 2], [.st .jd], [.sc .int], false, true, 19, 2, []⟩
def C87 (n : Nat) : Cal := ⟨87, F87.ps, F87.rs, F87.fr, fun a => f87 n a.1⟩
def cs87 (n : Nat) : List Cal := [C117 n]
theorem w87 (n x) : F87.W Tryz.f87 tabR (cs87 n) 0 x = o87_0 n x.1 := by kernel_rfl
theorem ok87 (n : Nat) : (C87 n).Ok Tryz.prog := okOf F87 Tryz.func87 htabR (cs := cs87 n) (by kernel_rfl) (mC (ok117 n) <| mN) (fun x => ⟨0, w87 n x⟩)
-- tranship/transhipref11.judge
def o50_0 (s50 : (List Ent) → Dv → Nat → (List Int) → Option (Jd × Int × (List Int))) (n : Nat) (k1 : (List Ent) -> Nat -> (List Int) -> Dv -> Bool -> Int -> Int -> Int -> Int -> Int -> Int -> Int -> Int -> Int -> Int -> Int -> Int -> Int -> (List Jd) -> Int -> Option (Jd × Int × (List Int))) (a0 : List Ent) (a1 : Dv) (a2 : Nat) (a3 : List Int) : Option (Jd × Int × (List Int)) :=
  k1 a0 a2 a3 a1 false 0 0 0 0 0 0 0 0 0 0 0 0 0 ([] : List Jd) 0
def o50_1 (s50 : (List Ent) → Dv → Nat → (List Int) → Option (Jd × Int × (List Int))) (n : Nat) (k1 : (List Ent) -> Nat -> (List Int) -> Dv -> Bool -> Int -> Int -> Int -> Int -> Int -> Int -> Int -> Int -> Int -> Int -> Int -> Int -> Int -> (List Jd) -> Int -> Option (Jd × Int × (List Int))) (t : List Ent) (u : Nat) (p : List Int) (r : Dv) (v : Bool) (w y z b c d g i j l o A B : Int) (s : List Jd) (q : Int) : Option (Jd × Int × (List Int)) :=
  ifB (decide (q < (r.kids.length : Int))) ( (f38 n t r.rule q s).bind fun x1 => ifB (!x1.2) ( some ((Jd.mk false (Tm.mk 0 0 0 0 []) (Tm.mk 0 0 0 0 []) (Tm.mk 0 0 0 0 []) 0), (3 : Int), p)) ( atI r.kids q fun x2 => ckB (decide ((([] : List Int).length + p.length) * 8 ≤ 140737488355328) && decide (([] : List Int).length + p.length ≤ 9223372036854775807)) <| ckB (decide (((([] : List Int) ++ p).length + [q].length) * 8 ≤ 140737488355328) && decide ((([] : List Int) ++ p).length + [q].length ≤ 9223372036854775807)) <| (s50 x1.1 x2 u ((([] : List Int) ++ p) ++ [q])).bind fun x3 => ifB (!decide (x3.2.1 = (0 : Int))) ( some ((Jd.mk false (Tm.mk 0 0 0 0 []) (Tm.mk 0 0 0 0 []) (Tm.mk 0 0 0 0 []) 0), x3.2.1, x3.2.2)) ( ckB (decide ((s.length + [(Jd.mk x3.1.eq (Tm.mk x3.1.u.kind x3.1.u.i x3.1.u.j x3.1.u.n x3.1.u.kids) (Tm.mk x3.1.v.kind x3.1.v.i x3.1.v.j x3.1.v.n x3.1.v.kids) (Tm.mk x3.1.a.kind x3.1.a.i x3.1.a.j x3.1.a.n x3.1.a.kids) x3.1.i)].length) * 184 ≤ 140737488355328) && decide (s.length + [(Jd.mk x3.1.eq (Tm.mk x3.1.u.kind x3.1.u.i x3.1.u.j x3.1.u.n x3.1.u.kids) (Tm.mk x3.1.v.kind x3.1.v.i x3.1.v.j x3.1.v.n x3.1.v.kids) (Tm.mk x3.1.a.kind x3.1.a.i x3.1.a.j x3.1.a.n x3.1.a.kids) x3.1.i)].length ≤ 9223372036854775807)) <| ckI (q + (1 : Int)) <| k1 t u p r v w y z b c d g i j l o A B (s ++ [(Jd.mk x3.1.eq (Tm.mk x3.1.u.kind x3.1.u.i x3.1.u.j x3.1.u.n x3.1.u.kids) (Tm.mk x3.1.v.kind x3.1.v.i x3.1.v.j x3.1.v.n x3.1.v.kids) (Tm.mk x3.1.a.kind x3.1.a.i x3.1.a.j x3.1.a.n x3.1.a.kids) x3.1.i)]) (q + (1 : Int))))) ( (f10 n t r.rule r.i s).bind fun x4 => ifB (!x4.2) ( some ((Jd.mk false (Tm.mk 0 0 0 0 []) (Tm.mk 0 0 0 0 []) (Tm.mk 0 0 0 0 []) 0), (3 : Int), p)) ( (f87 n x4.1).bind fun x5 => (f86 x5 u).bind fun x6 => ifB (!x6) ( some ((Jd.mk false (Tm.mk 0 0 0 0 []) (Tm.mk 0 0 0 0 []) (Tm.mk 0 0 0 0 []) 0), (4 : Int), p)) ( some (x4.1, (0 : Int), ([] : List Int)))))
def l50_1 (s50 : (List Ent) → Dv → Nat → (List Int) → Option (Jd × Int × (List Int))) (n : Nat) : Nat → (List Ent) -> Nat -> (List Int) -> Dv -> Bool -> Int -> Int -> Int -> Int -> Int -> Int -> Int -> Int -> Int -> Int -> Int -> Int -> Int -> (List Jd) -> Int -> Option (Jd × Int × (List Int))
  | 0, _, _, _, _, _, _, _, _, _, _, _, _, _, _, _, _, _, _, _, _ => none
  | m + 1, t, u, p, r, v, w, y, z, b, c, d, g, i, j, l, o, A, B, s, q => o50_1 s50 n (l50_1 s50 n m) t u p r v w y z b c d g i j l o A B s q
def f50 : Nat → (List Ent) → Dv → Nat → (List Int) → Option (Jd × Int × (List Int))
  | 0, _, _, _, _ => none
  | n + 1, a0, a1, a2, a3 => o50_0 (f50 n) n (l50_1 (f50 n) n n) a0 a1 a2 a3
def F50 : Fn := ⟨50, (.n none [] 0 .z (.n none [] 0 .z (.n none [] 0 (.n none [] 0 .z (.n none [] 0 (.n (some 1) [(0, .one (.d .ent false)), (2, .one .c), (3, .one (.d .int false)), (5, .ps 0 .dv false), (8, .p 1 [.c, .c, .c, .c, .c, .k, .c, .c, .c, .c, .k, .c, .c, .c, .c, .k, .c]), (11, .one (.r 2 31 .jd false)), (12, .one .c)] 3 .z .z) .z)) .z))), [.cell 8 31, .tmp 9, .tmp 10], [.sl .ent, .st .dv, .sc .flt, .sl .int], [.st .jd, .sc .int, .sl .int], false, false, 89, 3, [1]⟩
def C50 (n : Nat) : Cal := ⟨50, F50.ps, F50.rs, F50.fr, fun a => f50 n a.1 a.2.1 a.2.2.1 a.2.2.2.1⟩
def cs50 (s50 : (List Ent) → Dv → Nat → (List Int) → Option (Jd × Int × (List Int))) (n : Nat) : List Cal := [C10 n, C38s n, ⟨50, [.sl .ent, .st .dv, .sc .flt, .sl .int], [.st .jd, .sc .int, .sl .int], false, fun a => s50 a.1 a.2.1 a.2.2.1 a.2.2.2.1⟩, C86, C87 n]
def st50_1 (t : List Ent) (u : Nat) (p : List Int) (r : Dv) (v : Bool) (w y z b c d g i j l o A B : Int) (s : List Jd) (q : Int) : SS := ⟨[(0, .v (.one (.c (.sl .ent t) false))), (2, .v (.one (.c (.flt u) true))), (3, .v (.one (.c (.sl .int p) false))), (5, .v (.one (.ptr 0 0))), (8, .v (.one (.ptr 1 0))), (11, .v (.one (.arr 2))), (12, .v (.one (.c (.int q) true)))], [(0, some (.bst .dv r false)), (1, some (.box [.c (.bool v) true, .c (.int w) true, .c (.int y) true, .c (.int z) true, .c (.int b) true, .nils, .c (.int c) true, .c (.int d) true, .c (.int g) true, .c (.int i) true, .nils, .c (.int j) true, .c (.int l) true, .c (.int o) true, .c (.int A) true, .nils, .c (.int B) true])), (2, some (.row 31 .jd s false))], 3⟩
theorem p50_1 (s50 n R t u p r v w y z b c d g i j l o A B s q) : F50.Wl Tryz.f50 tabR (cs50 s50 n) R 1 (st50_1 t u p r v w y z b c d g i j l o A B s q) = o50_1 s50 n (fun t u p r v w y z b c d g i j l o A B s q => R 1 (st50_1 t u p r v w y z b c d g i j l o A B s q)) t u p r v w y z b c d g i j l o A B s q := by kernel_rfl
theorem m50_1 (s50 n) : ∀ m : Nat, (∀ t u p r v w y z b c d g i j l o A B s q, F50.Wm Tryz.f50 tabR (cs50 s50 n) m 1 (st50_1 t u p r v w y z b c d g i j l o A B s q) = l50_1 s50 n m t u p r v w y z b c d g i j l o A B s q) := by
  intro m
  induction m with
  | zero => exact (by intros; rfl)
  | succ m ih => intros; rw [Fn.Wm_succ, p50_1]; simp only [ih]; rfl
theorem p50_0 (s50 n R x) : F50.W0 Tryz.f50 tabR (cs50 s50 n) R x = o50_0 s50 n (fun t u p r v w y z b c d g i j l o A B s q => R 1 (st50_1 t u p r v w y z b c d g i j l o A B s q)) x.1 x.2.1 x.2.2.1 x.2.2.2.1 := by kernel_rfl
theorem w50 (s50 n x) : F50.W Tryz.f50 tabR (cs50 s50 n) n x = o50_0 s50 n (l50_1 s50 n n) x.1 x.2.1 x.2.2.1 x.2.2.2.1 := by
  rw [Fn.W_eq, p50_0]; simp only [m50_1 s50 n n]; try rfl
theorem okr50 : ∀ n : Nat, (C50 n).Ok Tryz.prog
  | 0 => okZ (by kernel_rfl) (fun _ => rfl)
  | n + 1 => okOf F50 Tryz.func50 htabR (cs := cs50 (f50 n) n) (by kernel_rfl) (mC (ok10 n) <| mC (ok38s n) <| mC (okr50 n) <| mC ok86 <| mC (ok87 n) <| mN) (fun x => ⟨n, w50 (f50 n) n x⟩)
theorem ok50 (n : Nat) : (C50 n).Ok Tryz.prog := (okr50 n)
-- tranship/transhipref11.Judge
-- tranship/check.Ctx
def o24_0 (n : Nat) (k1 : (List Dv) -> Nat -> (List Dv) -> Int -> Int -> Option ((List Ent) × Int × (List Int))) (a0 : List Dv) (a1 : Nat) : Option ((List Ent) × Int × (List Int)) :=
  k1 a0 a1 a0 (a0.length : Int) 0
def o24_1 (n : Nat) (k1 : (List Dv) -> Nat -> (List Dv) -> Int -> Int -> Option ((List Ent) × Int × (List Int))) (k2 : Nat -> (List Ent) -> (List Dv) -> Int -> Int -> Option ((List Ent) × Int × (List Int))) (v : List Dv) (p : Nat) (y : List Dv) (z w : Int) : Option ((List Ent) × Int × (List Int)) :=
  ifB (decide (w < z)) ( atI y w fun x1 => (f46 n x1).bind fun x2 => ifB (!x2) ( some (([] : List Ent), (1 : Int), ([] : List Int))) ( ckI (w + (1 : Int)) <| k1 v p y z (w + (1 : Int)))) ( ckB (decide (0 ≤ (0 : Int)) && (decide ((0 : Int) ≤ (v.length : Int)) && decide ((64 : Nat) * (v.length : Int) ≤ 281474976710656))) <| k2 p (List.replicate (0 : Int).toNat (Ent.mk (Tm.mk 0 0 0 0 []) 0)) v (v.length : Int) 0)
def o24_2 (n : Nat) (k3 : Nat -> (List Ent) -> Jd -> (List Dv) -> Int -> Int -> Option ((List Ent) × Int × (List Int))) (p : Nat) (r : List Ent) (s : List Dv) (t q : Int) : Option ((List Ent) × Int × (List Int)) :=
  ifB (decide (q < t)) ( atI s q fun x3 => (f47 n r x3 p).bind fun x4 => ifB x4.2.isSome ( thO x4.2 fun x5 => ckB (decide ((x5.2.length + [q].length) * 8 ≤ 140737488355328) && decide (x5.2.length + [q].length ≤ 9223372036854775807)) <| (f48 n (x5.1, (x5.2 ++ [q]), ())).bind fun x6 => some (([] : List Ent), x5.1, x6)) ( ifB x4.1.eq ( some (([] : List Ent), (3 : Int), [q])) ( ifB (!decide (x4.1.a.kind = (1 : Int))) ( some (([] : List Ent), (3 : Int), [q])) ( ckI (x4.1.a.i + (1 : Int)) <| ifB (!decide (x4.1.i = (x4.1.a.i + (1 : Int)))) ( some (([] : List Ent), (3 : Int), [q])) ( k3 p r x4.1 s t q))))) ( some (r, (0 : Int), ([] : List Int)))
def o24_3 (n : Nat) (k2 : Nat -> (List Ent) -> (List Dv) -> Int -> Int -> Option ((List Ent) × Int × (List Int))) (p : Nat) (r : List Ent) (u : Jd) (s : List Dv) (t q : Int) : Option ((List Ent) × Int × (List Int)) :=
  ckB (decide ((r.length + [(Ent.mk (Tm.mk u.u.kind u.u.i u.u.j u.u.n u.u.kids) u.a.i)].length) * 64 ≤ 140737488355328) && decide (r.length + [(Ent.mk (Tm.mk u.u.kind u.u.i u.u.j u.u.n u.u.kids) u.a.i)].length ≤ 9223372036854775807)) <| ckI (q + (1 : Int)) <| k2 p (r ++ [(Ent.mk (Tm.mk u.u.kind u.u.i u.u.j u.u.n u.u.kids) u.a.i)]) s t (q + (1 : Int))
def c24_3 (n : Nat) (k2 : Nat -> (List Ent) -> (List Dv) -> Int -> Int -> Option ((List Ent) × Int × (List Int))) (p : Nat) (r : List Ent) (u : Jd) (s : List Dv) (t q : Int) : Option ((List Ent) × Int × (List Int)) :=
  o24_3 n k2 p r u s t q
def l24_2 (n : Nat) : Nat → Nat -> (List Ent) -> (List Dv) -> Int -> Int -> Option ((List Ent) × Int × (List Int))
  | 0, _, _, _, _, _ => none
  | m + 1, p, r, s, t, q => o24_2 n (c24_3 n (l24_2 n m)) p r s t q
def l24_1 (n : Nat) : Nat → (List Dv) -> Nat -> (List Dv) -> Int -> Int -> Option ((List Ent) × Int × (List Int))
  | 0, _, _, _, _, _ => none
  | m + 1, v, p, y, z, w => o24_1 n (l24_1 n m) (l24_2 n m) v p y z w
def f24 (n : Nat) (a0 : List Dv) (a1 : Nat) : Option ((List Ent) × Int × (List Int)) := o24_0 n (l24_1 n n) a0 a1
def F24 : Fn := ⟨24, (.n none [] 0 .z (.n none [] 0 (.n none [] 0 .z (.n none [] 0 (.n (some 1) [(0, .one (.d .dv false)), (1, .one .c), (14, .one (.d .dv false)), (15, .one .c), (16, .one .c)] 0 .z .z) .z)) (.n none [] 0 .z (.n none [] 0 (.n none [] 0 .z (.n none [] 0 (.n (some 2) [(1, .one .c), (9, .one (.r 0 63 .ent true)), (27, .one (.d .dv false)), (28, .one .c), (29, .one .c)] 1 (.n none [] 0 .z (.n none [] 0 .z (.n none [] 0 (.n none [] 0 (.n none [] 0 .z (.n none [] 0 .z (.n none [] 0 (.n none [] 0 .z (.n none [(13, .o)] 0 .z .z)) (.n (some 3) [(1, .one .c), (9, .one (.r 0 63 .ent true)), (12, .ps 1 .jd true), (27, .one (.d .dv false)), (28, .one .c), (29, .one .c)] 2 .z .z)))) .z) .z))) .z) .z)) .z)))), [.tmp 4, .tmp 5, .tmp 6], [.sl .dv, .sc .flt], [.sl .ent, .sc .int, .sl .int], false, true, 89, 5, [1, 2]⟩
def C24 (n : Nat) : Cal := ⟨24, F24.ps, F24.rs, F24.fr, fun a => f24 n a.1 a.2.1⟩
def cs24 (n : Nat) : List Cal := [C46 n, C47 n, C48 n]
def st24_1 (v : List Dv) (p : Nat) (y : List Dv) (z w : Int) : SS := ⟨[(0, .v (.one (.c (.sl .dv v) false))), (1, .v (.one (.c (.flt p) true))), (14, .v (.one (.c (.sl .dv y) false))), (15, .v (.one (.c (.int z) true))), (16, .v (.one (.c (.int w) true)))], [], 0⟩
def st24_2 (p : Nat) (r : List Ent) (s : List Dv) (t q : Int) : SS := ⟨[(1, .v (.one (.c (.flt p) true))), (9, .v (.one (.arr 0))), (27, .v (.one (.c (.sl .dv s) false))), (28, .v (.one (.c (.int t) true))), (29, .v (.one (.c (.int q) true)))], [(0, some (.row 63 .ent r true))], 1⟩
theorem p24_1 (n R v p y z w) : F24.Wl Tryz.f24 tabR (cs24 n) R 1 (st24_1 v p y z w) = o24_1 n (fun v p y z w => R 1 (st24_1 v p y z w)) (fun p r s t q => R 2 (st24_2 p r s t q)) v p y z w := by kernel_rfl
theorem p24_2 (n R p r s t q) : F24.Wl Tryz.f24 tabR (cs24 n) R 2 (st24_2 p r s t q) = o24_2 n (c24_3 n (fun p r s t q => R 2 (st24_2 p r s t q))) p r s t q := by kernel_rfl
theorem m24_2 (n) : ∀ m : Nat, (∀ p r s t q, F24.Wm Tryz.f24 tabR (cs24 n) m 2 (st24_2 p r s t q) = l24_2 n m p r s t q) := by
  intro m
  induction m with
  | zero => exact (by intros; rfl)
  | succ m ih => intros; rw [Fn.Wm_succ, p24_2]; simp only [ih]; rfl
theorem m24_1 (n) : ∀ m : Nat, (∀ v p y z w, F24.Wm Tryz.f24 tabR (cs24 n) m 1 (st24_1 v p y z w) = l24_1 n m v p y z w) := by
  intro m
  induction m with
  | zero => exact (by intros; rfl)
  | succ m ih => intros; rw [Fn.Wm_succ, p24_1]; simp only [ih, m24_2 n m]; rfl
theorem p24_0 (n R x) : F24.W0 Tryz.f24 tabR (cs24 n) R x = o24_0 n (fun v p y z w => R 1 (st24_1 v p y z w)) x.1 x.2.1 := by kernel_rfl
theorem w24 (n x) : F24.W Tryz.f24 tabR (cs24 n) n x = o24_0 n (l24_1 n n) x.1 x.2.1 := by
  rw [Fn.W_eq, p24_0]; simp only [m24_1 n n]; try rfl
theorem ok24 (n : Nat) : (C24 n).Ok Tryz.prog := okOf F24 Tryz.func24 htabR (cs := cs24 n) (by kernel_rfl) (mC (ok46 n) <| mC (ok47 n) <| mC (ok48 n) <| mN) (fun x => ⟨n, w24 n x⟩)
-- tranship/check.File
def o22_0 (n : Nat) (k1 : Nat -> Fl -> Bool -> Int -> Int -> Int -> Int -> Int -> Int -> Int -> Int -> Int -> Int -> Int -> Int -> Int -> Bool -> (List Dv) -> Int -> Int -> Option ((List Ent) × Jd × Int × (List Int))) (a0 : Fl) (a1 : Nat) : Option ((List Ent) × Jd × Int × (List Int)) :=
  (f46 n a0.d).bind fun x1 => k1 a1 a0 false 0 0 0 0 0 0 0 0 0 0 0 0 0 x1 a0.ctx (a0.ctx.length : Int) 0
def o22_1 (n : Nat) (k1 : Nat -> Fl -> Bool -> Int -> Int -> Int -> Int -> Int -> Int -> Int -> Int -> Int -> Int -> Int -> Int -> Int -> Bool -> (List Dv) -> Int -> Int -> Option ((List Ent) × Jd × Int × (List Int))) (q : Nat) (r : Fl) (u : Bool) (v w y z b c d g i j l o A : Int) (B : Bool) (s : List Dv) (t p : Int) : Option ((List Ent) × Jd × Int × (List Int)) :=
  ifB (decide (p < t)) ( atI s p fun x2 => ifB B ( (f46 n x2).bind fun x3 => ckI (p + (1 : Int)) <| k1 q r u v w y z b c d g i j l o A x3 s t (p + (1 : Int))) ( ckI (p + (1 : Int)) <| k1 q r u v w y z b c d g i j l o A false s t (p + (1 : Int)))) ( ifB (!B) ( some (([] : List Ent), (Jd.mk false (Tm.mk 0 0 0 0 []) (Tm.mk 0 0 0 0 []) (Tm.mk 0 0 0 0 []) 0), (1 : Int), ([] : List Int))) ( (f24 n r.ctx q).bind fun x4 => ifB (!decide (x4.2.1 = (0 : Int))) ( ckB (decide (([(0 : Int)].length + x4.2.2.length) * 8 ≤ 140737488355328) && decide ([(0 : Int)].length + x4.2.2.length ≤ 9223372036854775807)) <| some (([] : List Ent), (Jd.mk false (Tm.mk 0 0 0 0 []) (Tm.mk 0 0 0 0 []) (Tm.mk 0 0 0 0 []) 0), x4.2.1, ([(0 : Int)] ++ x4.2.2))) ( (f17 n x4.1 r.d q).bind fun x5 => ifB (!decide (x5.2.1 = (0 : Int))) ( ckB (decide (([(1 : Int)].length + x5.2.2.length) * 8 ≤ 140737488355328) && decide ([(1 : Int)].length + x5.2.2.length ≤ 9223372036854775807)) <| some (([] : List Ent), (Jd.mk false (Tm.mk 0 0 0 0 []) (Tm.mk 0 0 0 0 []) (Tm.mk 0 0 0 0 []) 0), x5.2.1, ([(1 : Int)] ++ x5.2.2))) ( some (x4.1, x5.1, (0 : Int), ([] : List Int))))))
def l22_1 (n : Nat) : Nat → Nat -> Fl -> Bool -> Int -> Int -> Int -> Int -> Int -> Int -> Int -> Int -> Int -> Int -> Int -> Int -> Int -> Bool -> (List Dv) -> Int -> Int -> Option ((List Ent) × Jd × Int × (List Int))
  | 0, _, _, _, _, _, _, _, _, _, _, _, _, _, _, _, _, _, _, _, _ => none
  | m + 1, q, r, u, v, w, y, z, b, c, d, g, i, j, l, o, A, B, s, t, p => o22_1 n (l22_1 n m) q r u v w y z b c d g i j l o A B s t p
def f22 (n : Nat) (a0 : Fl) (a1 : Nat) : Option ((List Ent) × Jd × Int × (List Int)) := o22_0 n (l22_1 n n) a0 a1
def F22 : Fn := ⟨22, (.n none [] 0 .z (.n none [] 0 .z (.n none [] 0 (.n none [] 0 .z (.n none [] 0 (.n (some 1) [(1, .one .c), (2, .ps 0 .fl false), (5, .p 1 [.c, .c, .c, .c, .c, .k, .c, .c, .c, .c, .k, .c, .c, .c, .c, .k, .c]), (8, .one .c), (19, .one (.d .dv false)), (20, .one .c), (21, .one .c)] 2 .z .z) .z)) .z))), [.tmp 4, .cell 5 31, .tmp 6, .tmp 7], [.st .fl, .sc .flt], [.sl .ent, .st .jd, .sc .int, .sl .int], false, true, 67, 3, [1]⟩
def C22 (n : Nat) : Cal := ⟨22, F22.ps, F22.rs, F22.fr, fun a => f22 n a.1 a.2.1⟩
def cs22 (n : Nat) : List Cal := [C17 n, C24 n, C46 n]
def st22_1 (q : Nat) (r : Fl) (u : Bool) (v w y z b c d g i j l o A : Int) (B : Bool) (s : List Dv) (t p : Int) : SS := ⟨[(1, .v (.one (.c (.flt q) true))), (2, .v (.one (.ptr 0 0))), (5, .v (.one (.ptr 1 0))), (8, .v (.one (.c (.bool B) true))), (19, .v (.one (.c (.sl .dv s) false))), (20, .v (.one (.c (.int t) true))), (21, .v (.one (.c (.int p) true)))], [(0, some (.bst .fl r false)), (1, some (.box [.c (.bool u) true, .c (.int v) true, .c (.int w) true, .c (.int y) true, .c (.int z) true, .nils, .c (.int b) true, .c (.int c) true, .c (.int d) true, .c (.int g) true, .nils, .c (.int i) true, .c (.int j) true, .c (.int l) true, .c (.int o) true, .nils, .c (.int A) true]))], 2⟩
theorem p22_1 (n R q r u v w y z b c d g i j l o A B s t p) : F22.Wl Tryz.f22 tabR (cs22 n) R 1 (st22_1 q r u v w y z b c d g i j l o A B s t p) = o22_1 n (fun q r u v w y z b c d g i j l o A B s t p => R 1 (st22_1 q r u v w y z b c d g i j l o A B s t p)) q r u v w y z b c d g i j l o A B s t p := by kernel_rfl
theorem m22_1 (n) : ∀ m : Nat, (∀ q r u v w y z b c d g i j l o A B s t p, F22.Wm Tryz.f22 tabR (cs22 n) m 1 (st22_1 q r u v w y z b c d g i j l o A B s t p) = l22_1 n m q r u v w y z b c d g i j l o A B s t p) := by
  intro m
  induction m with
  | zero => exact (by intros; rfl)
  | succ m ih => intros; rw [Fn.Wm_succ, p22_1]; simp only [ih]; rfl
theorem p22_0 (n R x) : F22.W0 Tryz.f22 tabR (cs22 n) R x = o22_0 n (fun q r u v w y z b c d g i j l o A B s t p => R 1 (st22_1 q r u v w y z b c d g i j l o A B s t p)) x.1 x.2.1 := by kernel_rfl
theorem w22 (n x) : F22.W Tryz.f22 tabR (cs22 n) n x = o22_0 n (l22_1 n n) x.1 x.2.1 := by
  rw [Fn.W_eq, p22_0]; simp only [m22_1 n n]; try rfl
theorem ok22 (n : Nat) : (C22 n).Ok Tryz.prog := okOf F22 Tryz.func22 htabR (cs := cs22 n) (by kernel_rfl) (mC (ok17 n) <| mC (ok24 n) <| mC (ok46 n) <| mN) (fun x => ⟨n, w22 n x⟩)
-- tranship/transhipref11.Ctx
def o25_0 (n : Nat) (k1 : (List Dv) -> Nat -> (List Ent) -> Int -> Option ((List Ent) × Int × (List Int))) (a0 : List Dv) (a1 : Nat) : Option ((List Ent) × Int × (List Int)) :=
  (f52 n a0).bind fun x1 => ifB (!x1) ( some (([] : List Ent), (1 : Int), ([] : List Int))) ( k1 a0 a1 ([] : List Ent) 0)
def o25_1 (n : Nat) (k1 : (List Dv) -> Nat -> (List Ent) -> Int -> Option ((List Ent) × Int × (List Int))) (q : List Dv) (s : Nat) (r : List Ent) (p : Int) : Option ((List Ent) × Int × (List Int)) :=
  ifB (decide (p < (q.length : Int))) ( atI q p fun x2 => (f50 n r x2 s [p]).bind fun x3 => ifB (!decide (x3.2.1 = (0 : Int))) ( some (([] : List Ent), x3.2.1, x3.2.2)) ( (f53 n x3.1 false).bind fun x4 => ifB (!x4.2) ( some (([] : List Ent), (3 : Int), [p])) ( (f54 n r x3.1.u x4.1).bind fun x5 => ckI (p + (1 : Int)) <| k1 q s x5 (p + (1 : Int))))) ( some (r, (0 : Int), ([] : List Int)))
def l25_1 (n : Nat) : Nat → (List Dv) -> Nat -> (List Ent) -> Int -> Option ((List Ent) × Int × (List Int))
  | 0, _, _, _, _ => none
  | m + 1, q, s, r, p => o25_1 n (l25_1 n m) q s r p
def f25 (n : Nat) (a0 : List Dv) (a1 : Nat) : Option ((List Ent) × Int × (List Int)) := o25_0 n (l25_1 n n) a0 a1
def F25 : Fn := ⟨25, (.n none [] 0 .z (.n none [] 0 .z (.n none [] 0 .z (.n none [] 0 (.n none [] 0 .z (.n none [] 0 (.n (some 1) [(0, .one (.d .dv false)), (1, .one .c), (7, .one (.d .ent false)), (8, .one .c)] 0 .z .z) .z)) .z)))), [.tmp 4, .tmp 5, .tmp 6], [.sl .dv, .sc .flt], [.sl .ent, .sc .int, .sl .int], false, false, 55, 3, [1]⟩
def C25 (n : Nat) : Cal := ⟨25, F25.ps, F25.rs, F25.fr, fun a => f25 n a.1 a.2.1⟩
def cs25 (n : Nat) : List Cal := [C50 n, C52 n, C53 n, C54 n]
def st25_1 (q : List Dv) (s : Nat) (r : List Ent) (p : Int) : SS := ⟨[(0, .v (.one (.c (.sl .dv q) false))), (1, .v (.one (.c (.flt s) true))), (7, .v (.one (.c (.sl .ent r) false))), (8, .v (.one (.c (.int p) true)))], [], 0⟩
theorem p25_1 (n R q s r p) : F25.Wl Tryz.f25 tabR (cs25 n) R 1 (st25_1 q s r p) = o25_1 n (fun q s r p => R 1 (st25_1 q s r p)) q s r p := by kernel_rfl
theorem m25_1 (n) : ∀ m : Nat, (∀ q s r p, F25.Wm Tryz.f25 tabR (cs25 n) m 1 (st25_1 q s r p) = l25_1 n m q s r p) := by
  intro m
  induction m with
  | zero => exact (by intros; rfl)
  | succ m ih => intros; rw [Fn.Wm_succ, p25_1]; simp only [ih]; rfl
theorem p25_0 (n R x) : F25.W0 Tryz.f25 tabR (cs25 n) R x = o25_0 n (fun q s r p => R 1 (st25_1 q s r p)) x.1 x.2.1 := by kernel_rfl
theorem w25 (n x) : F25.W Tryz.f25 tabR (cs25 n) n x = o25_0 n (l25_1 n n) x.1 x.2.1 := by
  rw [Fn.W_eq, p25_0]; simp only [m25_1 n n]; try rfl
theorem ok25 (n : Nat) : (C25 n).Ok Tryz.prog := okOf F25 Tryz.func25 htabR (cs := cs25 n) (by kernel_rfl) (mC (ok50 n) <| mC (ok52 n) <| mC (ok53 n) <| mC (ok54 n) <| mN) (fun x => ⟨n, w25 n x⟩)
-- tranship/transhipref11.Whole
def o23_0 (n : Nat) (k1 : Nat -> Fl -> Bool -> Int -> Int -> Int -> Int -> Int -> Int -> Int -> Int -> Int -> Int -> Int -> Int -> Int -> Option ((List Ent) × Jd × Int × (List Int))) (a0 : Fl) (a1 : Nat) : Option ((List Ent) × Jd × Int × (List Int)) :=
  (f52 n a0.ctx).bind fun x1 => ifB (!x1) ( some (([] : List Ent), (Jd.mk false (Tm.mk 0 0 0 0 []) (Tm.mk 0 0 0 0 []) (Tm.mk 0 0 0 0 []) 0), (1 : Int), ([] : List Int))) ( (f49 n a0.d).bind fun x2 => ifB (!x2) ( some (([] : List Ent), (Jd.mk false (Tm.mk 0 0 0 0 []) (Tm.mk 0 0 0 0 []) (Tm.mk 0 0 0 0 []) 0), (1 : Int), ([] : List Int))) ( k1 a1 a0 false 0 0 0 0 0 0 0 0 0 0 0 0 0))
def o23_1 (n : Nat) (p : Nat) (q : Fl) (r : Bool) (s t u v w y z b c d g i j : Int) : Option ((List Ent) × Jd × Int × (List Int)) :=
  (f25 n q.ctx p).bind fun x3 => ifB (!decide (x3.2.1 = (0 : Int))) ( ckB (decide (([(0 : Int)].length + x3.2.2.length) * 8 ≤ 140737488355328) && decide ([(0 : Int)].length + x3.2.2.length ≤ 9223372036854775807)) <| some (([] : List Ent), (Jd.mk false (Tm.mk 0 0 0 0 []) (Tm.mk 0 0 0 0 []) (Tm.mk 0 0 0 0 []) 0), x3.2.1, ([(0 : Int)] ++ x3.2.2))) ( (f50 n x3.1 q.d p [(1 : Int)]).bind fun x4 => ifB (!decide (x4.2.1 = (0 : Int))) ( some (([] : List Ent), (Jd.mk false (Tm.mk 0 0 0 0 []) (Tm.mk 0 0 0 0 []) (Tm.mk 0 0 0 0 []) 0), x4.2.1, x4.2.2)) ( some (x3.1, x4.1, (0 : Int), ([] : List Int))))
def c23_1 (n : Nat) (p : Nat) (q : Fl) (r : Bool) (s t u v w y z b c d g i j : Int) : Option ((List Ent) × Jd × Int × (List Int)) :=
  o23_1 n p q r s t u v w y z b c d g i j
def f23 (n : Nat) (a0 : Fl) (a1 : Nat) : Option ((List Ent) × Jd × Int × (List Int)) := o23_0 n (c23_1 n) a0 a1
def F23 : Fn := ⟨23, (.n none [] 0 .z (.n (some 1) [(1, .one .c), (2, .ps 0 .fl false), (5, .p 1 [.c, .c, .c, .c, .c, .k, .c, .c, .c, .c, .k, .c, .c, .c, .c, .k, .c])] 2 .z .z)), [.tmp 4, .cell 5 31, .tmp 6, .tmp 7], [.st .fl, .sc .flt], [.sl .ent, .st .jd, .sc .int, .sl .int], false, false, 55, 3, []⟩
def C23 (n : Nat) : Cal := ⟨23, F23.ps, F23.rs, F23.fr, fun a => f23 n a.1 a.2.1⟩
def cs23 (n : Nat) : List Cal := [C25 n, C49 n, C50 n, C52 n]
theorem w23 (n x) : F23.W Tryz.f23 tabR (cs23 n) 0 x = o23_0 n (c23_1 n) x.1 x.2.1 := by kernel_rfl
theorem ok23 (n : Nat) : (C23 n).Ok Tryz.prog := okOf F23 Tryz.func23 htabR (cs := cs23 n) (by kernel_rfl) (mC (ok25 n) <| mC (ok49 n) <| mC (ok50 n) <| mC (ok52 n) <| mN) (fun x => ⟨0, w23 n x⟩)
end Go.Proofs.YtcaahmielncmpaaGreat
