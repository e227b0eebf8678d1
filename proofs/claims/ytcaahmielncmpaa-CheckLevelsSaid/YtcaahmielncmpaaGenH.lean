/-
  What checking computes.
-/
import Derived.Test.YtcaahmielncmpaaGenR
set_option linter.unusedSimpArgs false
set_option linter.unusedVariables false
namespace Go.Proofs.Ytcaahmielncmpaa
open Go Go.RowKit
set_option maxRecDepth 100000
-- tranship/budget.Within
def o148_0 (a0 : Int) (a1 : Nat) : Option Bool :=
  some (fLe (fOf a0) a1)
def f148 (a0 : Int) (a1 : Nat) : Option Bool := o148_0 a0 a1
def an148 : An := .z
def F148 : Fn := { f := 148, a := an148, vars := [.tmp 4], ps := [.sc .int, .sc .flt], rs := [.sc .bool], own := false, fr := true, nt := 9, D := 2, loops := [] }
def cs148 : List Cal := []
theorem p148_0 (lab : Nat → SS → Option (RT.den F148.rs)) (x : PTs.den F148.ps) : F148.body (bodyOf Try.f148) tabR tyR true cs148 lab x = o148_0 x.1 x.2.1 := by kernel_rfl
theorem w148 (x : PTs.den F148.ps) : F148.body (bodyOf Try.f148) tabR tyR true cs148 (F148.labX (bodyOf Try.f148) tabR tyR true cs148 (F148.labM (bodyOf Try.f148) tabR tyR true cs148 0) F148.D) x = o148_0 x.1 x.2.1 := by
  show F148.body (bodyOf Try.f148) tabR tyR true cs148 (F148.labX (bodyOf Try.f148) tabR tyR true cs148 (F148.labM (bodyOf Try.f148) tabR tyR true cs148 0) 2) x = _
  rw [p148_0]
theorem call148 : Callable Try.prog 148 := callable_of Try.func148 (by kernel_rfl) (by kernel_rfl)
theorem ok148 : Cal.Ok Try.prog ⟨148, F148.ps, F148.rs, F148.fr, fun a => f148 a.1 a.2.1⟩ :=
  cal_of_fn F148 (code := bodyOf Try.f148) Try.func148 (by kernel_rfl) (by kernel_rfl) call148 htabR (cs := cs148) (fun c hc => by simp only [cs148, List.not_mem_nil] at hc) (fun _ => mixed) (by kernel_rfl) (by kernel_rfl) (by decide) (fun x => ⟨0, w148 x⟩)
-- tranship/check.judge
def o118_0 (s118 : (List Ent) → Dv → Nat → Option (Jd × (Option (Int × List Int)))) (n : Nat) (k1 : (List Ent) → Nat → Dv → Bool → Int → Int → Int → Int → Int → Int → Int → Int → Int → Int → Int → Int → Int → (List Jd) → (List Dv) → Int → Int → Option (Jd × (Option (Int × List Int)))) (a0 : List Ent) (a1 : Dv) (a2 : Nat) : Option (Jd × (Option (Int × List Int))) :=
  ckB (decide (0 ≤ (0 : Int)) && (decide ((0 : Int) ≤ (a1.kids.length : Int)) && decide ((184 : Nat) * (a1.kids.length : Int) ≤ 281474976710656))) <|
  k1 a0 a2 a1 false (0 : Int) (0 : Int) (0 : Int) (0 : Int) (0 : Int) (0 : Int) (0 : Int) (0 : Int) (0 : Int) (0 : Int) (0 : Int) (0 : Int) (0 : Int) (List.replicate (0 : Int).toNat (Jd.mk false (Tm.mk (0 : Int) (0 : Int) (0 : Int) (0 : Int) ([] : List Tm)) (Tm.mk (0 : Int) (0 : Int) (0 : Int) (0 : Int) ([] : List Tm)) (Tm.mk (0 : Int) (0 : Int) (0 : Int) (0 : Int) ([] : List Tm)) (0 : Int))) a1.kids (a1.kids.length : Int) (0 : Int)
def o118_1 (s118 : (List Ent) → Dv → Nat → Option (Jd × (Option (Int × List Int)))) (n : Nat) (k1 : (List Ent) → Nat → Dv → Bool → Int → Int → Int → Int → Int → Int → Int → Int → Int → Int → Int → Int → Int → (List Jd) → (List Dv) → Int → Int → Option (Jd × (Option (Int × List Int)))) (k2 : Nat → Bool → Int → Int → Int → Int → Int → Int → Int → Int → Int → Int → Int → Int → Int → Jd → Int → Option (Jd × (Option (Int × List Int)))) (t0 : List Ent) (t2 : Nat) (t4 : Dv) (t6_0 : Bool) (t6_1 : Int) (t6_2 : Int) (t6_3 : Int) (t6_4 : Int) (t6_6 : Int) (t6_7 : Int) (t6_8 : Int) (t6_9 : Int) (t6_11 : Int) (t6_12 : Int) (t6_13 : Int) (t6_14 : Int) (t6_16 : Int) (t8 : List Jd) (t23 : List Dv) (t24 : Int) (t25 : Int) : Option (Jd × (Option (Int × List Int))) :=
  ifB (decide (t25 < t24)) (
    atI t23 t25 fun x1 =>
    (f59 n t0 t4.rule t25 t8).bind fun x2 =>
    ifB (!x2.2) (
      some ((Jd.mk false (Tm.mk (0 : Int) (0 : Int) (0 : Int) (0 : Int) ([] : List Tm)) (Tm.mk (0 : Int) (0 : Int) (0 : Int) (0 : Int) ([] : List Tm)) (Tm.mk (0 : Int) (0 : Int) (0 : Int) (0 : Int) ([] : List Tm)) (0 : Int)), some ((3 : Int), []))) (
      (s118 x2.1 x1 t2).bind fun x3 =>
      ifB x3.2.isSome (
        thO x3.2 fun x4 =>
        ckB (decide ((x4.2.length + [t25].length) * 8 ≤ 140737488355328) && decide (x4.2.length + [t25].length ≤ 9223372036854775807)) <|
        some ((Jd.mk false (Tm.mk (0 : Int) (0 : Int) (0 : Int) (0 : Int) ([] : List Tm)) (Tm.mk (0 : Int) (0 : Int) (0 : Int) (0 : Int) ([] : List Tm)) (Tm.mk (0 : Int) (0 : Int) (0 : Int) (0 : Int) ([] : List Tm)) (0 : Int)), some (x4.1, (x4.2 ++ [t25])))) (
        ckB (decide ((t8.length + [(Jd.mk x3.1.eq (Tm.mk x3.1.u.kind x3.1.u.i x3.1.u.j x3.1.u.n x3.1.u.kids) (Tm.mk x3.1.v.kind x3.1.v.i x3.1.v.j x3.1.v.n x3.1.v.kids) (Tm.mk x3.1.a.kind x3.1.a.i x3.1.a.j x3.1.a.n x3.1.a.kids) x3.1.i)].length) * 184 ≤ 140737488355328) && decide (t8.length + [(Jd.mk x3.1.eq (Tm.mk x3.1.u.kind x3.1.u.i x3.1.u.j x3.1.u.n x3.1.u.kids) (Tm.mk x3.1.v.kind x3.1.v.i x3.1.v.j x3.1.v.n x3.1.v.kids) (Tm.mk x3.1.a.kind x3.1.a.i x3.1.a.j x3.1.a.n x3.1.a.kids) x3.1.i)].length ≤ 9223372036854775807)) <|
        ckI (t25 + (1 : Int)) <|
        k1 t0 t2 t4 t6_0 t6_1 t6_2 t6_3 t6_4 t6_6 t6_7 t6_8 t6_9 t6_11 t6_12 t6_13 t6_14 t6_16 (t8 ++ [(Jd.mk x3.1.eq (Tm.mk x3.1.u.kind x3.1.u.i x3.1.u.j x3.1.u.n x3.1.u.kids) (Tm.mk x3.1.v.kind x3.1.v.i x3.1.v.j x3.1.v.n x3.1.v.kids) (Tm.mk x3.1.a.kind x3.1.a.i x3.1.a.j x3.1.a.n x3.1.a.kids) x3.1.i)]) t23 t24 (t25 + (1 : Int))))) (
    (f62 n t0 t4.rule t4.i t8).bind fun x5 =>
    ifB (!x5.2) (
      some ((Jd.mk false (Tm.mk (0 : Int) (0 : Int) (0 : Int) (0 : Int) ([] : List Tm)) (Tm.mk (0 : Int) (0 : Int) (0 : Int) (0 : Int) ([] : List Tm)) (Tm.mk (0 : Int) (0 : Int) (0 : Int) (0 : Int) ([] : List Tm)) (0 : Int)), some ((3 : Int), []))) (
      (f147 n x5.1.u).bind fun x6 =>
      (f147 n x5.1.a).bind fun x7 =>
      ckI (x6 + x7) <|
      ifB x5.1.eq (
        (f147 n x5.1.v).bind fun x8 =>
        ckI ((x6 + x7) + x8) <|
        k2 t2 t6_0 t6_1 t6_2 t6_3 t6_4 t6_6 t6_7 t6_8 t6_9 t6_11 t6_12 t6_13 t6_14 t6_16 x5.1 ((x6 + x7) + x8)) (
        k2 t2 t6_0 t6_1 t6_2 t6_3 t6_4 t6_6 t6_7 t6_8 t6_9 t6_11 t6_12 t6_13 t6_14 t6_16 x5.1 (x6 + x7))))
def o118_2 (s118 : (List Ent) → Dv → Nat → Option (Jd × (Option (Int × List Int)))) (n : Nat) (t2 : Nat) (t6_0 : Bool) (t6_1 : Int) (t6_2 : Int) (t6_3 : Int) (t6_4 : Int) (t6_6 : Int) (t6_7 : Int) (t6_8 : Int) (t6_9 : Int) (t6_11 : Int) (t6_12 : Int) (t6_13 : Int) (t6_14 : Int) (t6_16 : Int) (t15 : Jd) (t17 : Int) : Option (Jd × (Option (Int × List Int))) :=
  (f148 t17 t2).bind fun x9 =>
  ifB (!x9) (
    some ((Jd.mk false (Tm.mk (0 : Int) (0 : Int) (0 : Int) (0 : Int) ([] : List Tm)) (Tm.mk (0 : Int) (0 : Int) (0 : Int) (0 : Int) ([] : List Tm)) (Tm.mk (0 : Int) (0 : Int) (0 : Int) (0 : Int) ([] : List Tm)) (0 : Int)), some ((4 : Int), []))) (
    some (t15, none))
def c118_2 (s118 : (List Ent) → Dv → Nat → Option (Jd × (Option (Int × List Int)))) (n : Nat) (t2 : Nat) (t6_0 : Bool) (t6_1 : Int) (t6_2 : Int) (t6_3 : Int) (t6_4 : Int) (t6_6 : Int) (t6_7 : Int) (t6_8 : Int) (t6_9 : Int) (t6_11 : Int) (t6_12 : Int) (t6_13 : Int) (t6_14 : Int) (t6_16 : Int) (t15 : Jd) (t17 : Int) : Option (Jd × (Option (Int × List Int))) :=
  o118_2 s118 n t2 t6_0 t6_1 t6_2 t6_3 t6_4 t6_6 t6_7 t6_8 t6_9 t6_11 t6_12 t6_13 t6_14 t6_16 t15 t17
def l118_1 (s118 : (List Ent) → Dv → Nat → Option (Jd × (Option (Int × List Int)))) (n : Nat) : Nat → (List Ent) → Nat → Dv → Bool → Int → Int → Int → Int → Int → Int → Int → Int → Int → Int → Int → Int → Int → (List Jd) → (List Dv) → Int → Int → Option (Jd × (Option (Int × List Int)))
  | 0, _, _, _, _, _, _, _, _, _, _, _, _, _, _, _, _, _, _, _, _, _ => none
  | m + 1, t0, t2, t4, t6_0, t6_1, t6_2, t6_3, t6_4, t6_6, t6_7, t6_8, t6_9, t6_11, t6_12, t6_13, t6_14, t6_16, t8, t23, t24, t25 => o118_1 s118 n (l118_1 s118 n m) (c118_2 s118 n) t0 t2 t4 t6_0 t6_1 t6_2 t6_3 t6_4 t6_6 t6_7 t6_8 t6_9 t6_11 t6_12 t6_13 t6_14 t6_16 t8 t23 t24 t25
def f118 : Nat → (List Ent) → Dv → Nat → Option (Jd × (Option (Int × List Int)))
  | 0, _, _, _ => none
  | n + 1, a0, a1, a2 => o118_0 (f118 n) n (l118_1 (f118 n) n n) a0 a1 a2
def an118 : An := (.n none [] 0 .z (.n none [] 0 .z (.n none [] 0 (.n none [] 0 .z (.n none [] 0 (.n (some 1) [(0, .one (.d .ent false)), (2, .one .c), (4, .ps 0 .dv false), (6, .p 1 [.c, .c, .c, .c, .c, .k, .c, .c, .c, .c, .k, .c, .c, .c, .c, .k, .c]), (8, .one (.r 2 49 .jd true)), (23, .one (.d .dv false)), (24, .one .c), (25, .one .c)] 3 (.n none [] 0 .z (.n none [] 0 .z (.n none [] 0 (.n none [] 0 (.n none [] 0 .z (.n none [] 0 .z (.n none [] 0 .z (.n none [] 0 .z (.n none [] 0 (.n none [] 0 .z (.n none [(14, .o)] 0 .z .z)) .z))))) .z) .z))) .z) .z)) (.n none [] 0 .z (.n none [] 0 .z (.n none [] 0 .z (.n (some 2) [(2, .one .c), (6, .p 0 [.c, .c, .c, .c, .c, .k, .c, .c, .c, .c, .k, .c, .c, .c, .c, .k, .c]), (15, .ps 1 .jd true), (17, .one .c)] 2 .z .z)))))))
def F118 : Fn := { f := 118, a := an118, vars := [.cell 6 49, .tmp 7], ps := [.sl .ent, .st .dv, .sc .flt], rs := [.st .jd, .fb], own := false, fr := true, nt := 107, D := 4, loops := [1] }
def cs118 (s118 : (List Ent) → Dv → Nat → Option (Jd × (Option (Int × List Int)))) (n : Nat) : List Cal := [⟨59, [.sl .ent, .sc .int, .sc .int, .sl .jd], [.sl .ent, .sc .bool], true, fun a => f59 n a.1 a.2.1 a.2.2.1 a.2.2.2.1⟩, ⟨62, [.sl .ent, .sc .int, .sc .int, .sl .jd], [.st .jd, .sc .bool], true, fun a => f62 n a.1 a.2.1 a.2.2.1 a.2.2.2.1⟩, ⟨118, [.sl .ent, .st .dv, .sc .flt], [.st .jd, .fb], true, fun a => s118 a.1 a.2.1 a.2.2.1⟩, ⟨147, [.st .tm], [.sc .int], true, fun a => f147 n a.1⟩, ⟨148, [.sc .int, .sc .flt], [.sc .bool], true, fun a => f148 a.1 a.2.1⟩]
def st118_1 (t0 : List Ent) (t2 : Nat) (t4 : Dv) (t6_0 : Bool) (t6_1 : Int) (t6_2 : Int) (t6_3 : Int) (t6_4 : Int) (t6_6 : Int) (t6_7 : Int) (t6_8 : Int) (t6_9 : Int) (t6_11 : Int) (t6_12 : Int) (t6_13 : Int) (t6_14 : Int) (t6_16 : Int) (t8 : List Jd) (t23 : List Dv) (t24 : Int) (t25 : Int) : SS := ⟨[(0, .v (.one (.c (.sl .ent t0) false))), (2, .v (.one (.c (.flt t2) true))), (4, .v (.one (.ptr 0 0))), (6, .v (.one (.ptr 1 0))), (8, .v (.one (.arr 2))), (23, .v (.one (.c (.sl .dv t23) false))), (24, .v (.one (.c (.int t24) true))), (25, .v (.one (.c (.int t25) true)))], [(0, some (.bst .dv t4 false)), (1, some (.box [.c (.bool t6_0) true, .c (.int t6_1) true, .c (.int t6_2) true, .c (.int t6_3) true, .c (.int t6_4) true, .nils, .c (.int t6_6) true, .c (.int t6_7) true, .c (.int t6_8) true, .c (.int t6_9) true, .nils, .c (.int t6_11) true, .c (.int t6_12) true, .c (.int t6_13) true, .c (.int t6_14) true, .nils, .c (.int t6_16) true])), (2, some (.row 49 .jd t8 true))], 3⟩
def st118_2 (t2 : Nat) (t6_0 : Bool) (t6_1 : Int) (t6_2 : Int) (t6_3 : Int) (t6_4 : Int) (t6_6 : Int) (t6_7 : Int) (t6_8 : Int) (t6_9 : Int) (t6_11 : Int) (t6_12 : Int) (t6_13 : Int) (t6_14 : Int) (t6_16 : Int) (t15 : Jd) (t17 : Int) : SS := ⟨[(2, .v (.one (.c (.flt t2) true))), (6, .v (.one (.ptr 0 0))), (15, .v (.one (.ptr 1 0))), (17, .v (.one (.c (.int t17) true)))], [(0, some (.box [.c (.bool t6_0) true, .c (.int t6_1) true, .c (.int t6_2) true, .c (.int t6_3) true, .c (.int t6_4) true, .nils, .c (.int t6_6) true, .c (.int t6_7) true, .c (.int t6_8) true, .c (.int t6_9) true, .nils, .c (.int t6_11) true, .c (.int t6_12) true, .c (.int t6_13) true, .c (.int t6_14) true, .nils, .c (.int t6_16) true])), (1, some (.bst .jd t15 true))], 2⟩
theorem p118_0 (s118 : (List Ent) → Dv → Nat → Option (Jd × (Option (Int × List Int)))) (n : Nat) (lab : Nat → SS → Option (RT.den F118.rs)) (x : PTs.den F118.ps) : F118.body (bodyOf Try.f118) tabR tyR true (cs118 s118 n) lab x = o118_0 s118 n (fun t0 t2 t4 t6_0 t6_1 t6_2 t6_3 t6_4 t6_6 t6_7 t6_8 t6_9 t6_11 t6_12 t6_13 t6_14 t6_16 t8 t23 t24 t25 => lab 1 (st118_1 t0 t2 t4 t6_0 t6_1 t6_2 t6_3 t6_4 t6_6 t6_7 t6_8 t6_9 t6_11 t6_12 t6_13 t6_14 t6_16 t8 t23 t24 t25)) x.1 x.2.1 x.2.2.1 := by kernel_rfl
theorem p118_1 (s118 : (List Ent) → Dv → Nat → Option (Jd × (Option (Int × List Int)))) (n : Nat) (lab : Nat → SS → Option (RT.den F118.rs)) (t0 : List Ent) (t2 : Nat) (t4 : Dv) (t6_0 : Bool) (t6_1 : Int) (t6_2 : Int) (t6_3 : Int) (t6_4 : Int) (t6_6 : Int) (t6_7 : Int) (t6_8 : Int) (t6_9 : Int) (t6_11 : Int) (t6_12 : Int) (t6_13 : Int) (t6_14 : Int) (t6_16 : Int) (t8 : List Jd) (t23 : List Dv) (t24 : Int) (t25 : Int) : F118.at (bodyOf Try.f118) tabR tyR true (cs118 s118 n) lab 1 (st118_1 t0 t2 t4 t6_0 t6_1 t6_2 t6_3 t6_4 t6_6 t6_7 t6_8 t6_9 t6_11 t6_12 t6_13 t6_14 t6_16 t8 t23 t24 t25) = o118_1 s118 n (fun t0 t2 t4 t6_0 t6_1 t6_2 t6_3 t6_4 t6_6 t6_7 t6_8 t6_9 t6_11 t6_12 t6_13 t6_14 t6_16 t8 t23 t24 t25 => lab 1 (st118_1 t0 t2 t4 t6_0 t6_1 t6_2 t6_3 t6_4 t6_6 t6_7 t6_8 t6_9 t6_11 t6_12 t6_13 t6_14 t6_16 t8 t23 t24 t25)) (fun t2 t6_0 t6_1 t6_2 t6_3 t6_4 t6_6 t6_7 t6_8 t6_9 t6_11 t6_12 t6_13 t6_14 t6_16 t15 t17 => lab 2 (st118_2 t2 t6_0 t6_1 t6_2 t6_3 t6_4 t6_6 t6_7 t6_8 t6_9 t6_11 t6_12 t6_13 t6_14 t6_16 t15 t17)) t0 t2 t4 t6_0 t6_1 t6_2 t6_3 t6_4 t6_6 t6_7 t6_8 t6_9 t6_11 t6_12 t6_13 t6_14 t6_16 t8 t23 t24 t25 := by kernel_rfl
theorem p118_2 (s118 : (List Ent) → Dv → Nat → Option (Jd × (Option (Int × List Int)))) (n : Nat) (lab : Nat → SS → Option (RT.den F118.rs)) (t2 : Nat) (t6_0 : Bool) (t6_1 : Int) (t6_2 : Int) (t6_3 : Int) (t6_4 : Int) (t6_6 : Int) (t6_7 : Int) (t6_8 : Int) (t6_9 : Int) (t6_11 : Int) (t6_12 : Int) (t6_13 : Int) (t6_14 : Int) (t6_16 : Int) (t15 : Jd) (t17 : Int) : F118.at (bodyOf Try.f118) tabR tyR true (cs118 s118 n) lab 2 (st118_2 t2 t6_0 t6_1 t6_2 t6_3 t6_4 t6_6 t6_7 t6_8 t6_9 t6_11 t6_12 t6_13 t6_14 t6_16 t15 t17) = o118_2 s118 n t2 t6_0 t6_1 t6_2 t6_3 t6_4 t6_6 t6_7 t6_8 t6_9 t6_11 t6_12 t6_13 t6_14 t6_16 t15 t17 := by kernel_rfl
theorem n118_2 (s118 : (List Ent) → Dv → Nat → Option (Jd × (Option (Int × List Int)))) (n : Nat) (rec : Nat → SS → Option (RT.den F118.rs)) (d : Nat) (t2 : Nat) (t6_0 : Bool) (t6_1 : Int) (t6_2 : Int) (t6_3 : Int) (t6_4 : Int) (t6_6 : Int) (t6_7 : Int) (t6_8 : Int) (t6_9 : Int) (t6_11 : Int) (t6_12 : Int) (t6_13 : Int) (t6_14 : Int) (t6_16 : Int) (t15 : Jd) (t17 : Int) : F118.labD (bodyOf Try.f118) tabR tyR true (cs118 s118 n) rec (d + 1) 2 (st118_2 t2 t6_0 t6_1 t6_2 t6_3 t6_4 t6_6 t6_7 t6_8 t6_9 t6_11 t6_12 t6_13 t6_14 t6_16 t15 t17) = c118_2 s118 n t2 t6_0 t6_1 t6_2 t6_3 t6_4 t6_6 t6_7 t6_8 t6_9 t6_11 t6_12 t6_13 t6_14 t6_16 t15 t17 := by
  show F118.labD (bodyOf Try.f118) tabR tyR true (cs118 s118 n) rec (d + 1) 2 _ = _
  rw [Fn.labD_succ, p118_2]
  rfl
theorem m118_1 (s118 : (List Ent) → Dv → Nat → Option (Jd × (Option (Int × List Int)))) (n : Nat) : ∀ m : Nat, (∀ t0 t2 t4 t6_0 t6_1 t6_2 t6_3 t6_4 t6_6 t6_7 t6_8 t6_9 t6_11 t6_12 t6_13 t6_14 t6_16 t8 t23 t24 t25, F118.labM (bodyOf Try.f118) tabR tyR true (cs118 s118 n) m 1 (st118_1 t0 t2 t4 t6_0 t6_1 t6_2 t6_3 t6_4 t6_6 t6_7 t6_8 t6_9 t6_11 t6_12 t6_13 t6_14 t6_16 t8 t23 t24 t25) = l118_1 s118 n m t0 t2 t4 t6_0 t6_1 t6_2 t6_3 t6_4 t6_6 t6_7 t6_8 t6_9 t6_11 t6_12 t6_13 t6_14 t6_16 t8 t23 t24 t25) := by
  intro m
  induction m with
  | zero => exact fun _ _ _ _ _ _ _ _ _ _ _ _ _ _ _ _ _ _ _ _ _ => rfl
  | succ m ih =>
    intro t0 t2 t4 t6_0 t6_1 t6_2 t6_3 t6_4 t6_6 t6_7 t6_8 t6_9 t6_11 t6_12 t6_13 t6_14 t6_16 t8 t23 t24 t25
    have e1 : ∀ t0 t2 t4 t6_0 t6_1 t6_2 t6_3 t6_4 t6_6 t6_7 t6_8 t6_9 t6_11 t6_12 t6_13 t6_14 t6_16 t8 t23 t24 t25, F118.labX (bodyOf Try.f118) tabR tyR true (cs118 s118 n) (F118.labM (bodyOf Try.f118) tabR tyR true (cs118 s118 n) m) 3 1 (st118_1 t0 t2 t4 t6_0 t6_1 t6_2 t6_3 t6_4 t6_6 t6_7 t6_8 t6_9 t6_11 t6_12 t6_13 t6_14 t6_16 t8 t23 t24 t25) = (l118_1 s118 n m) t0 t2 t4 t6_0 t6_1 t6_2 t6_3 t6_4 t6_6 t6_7 t6_8 t6_9 t6_11 t6_12 t6_13 t6_14 t6_16 t8 t23 t24 t25 := fun t0 t2 t4 t6_0 t6_1 t6_2 t6_3 t6_4 t6_6 t6_7 t6_8 t6_9 t6_11 t6_12 t6_13 t6_14 t6_16 t8 t23 t24 t25 => (Fn.labX_loop _ _ _ _ _ _ _ _ _ _ (by kernel_rfl)).trans (ih t0 t2 t4 t6_0 t6_1 t6_2 t6_3 t6_4 t6_6 t6_7 t6_8 t6_9 t6_11 t6_12 t6_13 t6_14 t6_16 t8 t23 t24 t25)
    have e2 : ∀ t2 t6_0 t6_1 t6_2 t6_3 t6_4 t6_6 t6_7 t6_8 t6_9 t6_11 t6_12 t6_13 t6_14 t6_16 t15 t17, F118.labX (bodyOf Try.f118) tabR tyR true (cs118 s118 n) (F118.labM (bodyOf Try.f118) tabR tyR true (cs118 s118 n) m) 3 2 (st118_2 t2 t6_0 t6_1 t6_2 t6_3 t6_4 t6_6 t6_7 t6_8 t6_9 t6_11 t6_12 t6_13 t6_14 t6_16 t15 t17) = c118_2 s118 n t2 t6_0 t6_1 t6_2 t6_3 t6_4 t6_6 t6_7 t6_8 t6_9 t6_11 t6_12 t6_13 t6_14 t6_16 t15 t17 := fun t2 t6_0 t6_1 t6_2 t6_3 t6_4 t6_6 t6_7 t6_8 t6_9 t6_11 t6_12 t6_13 t6_14 t6_16 t15 t17 => (Fn.labX_step _ _ _ _ _ _ _ _ _ _ (by kernel_rfl)).trans (n118_2 s118 n (F118.labM (bodyOf Try.f118) tabR tyR true (cs118 s118 n) m) 2 t2 t6_0 t6_1 t6_2 t6_3 t6_4 t6_6 t6_7 t6_8 t6_9 t6_11 t6_12 t6_13 t6_14 t6_16 t15 t17)
    rw [Fn.labM_succ]
    show F118.labD (bodyOf Try.f118) tabR tyR true (cs118 s118 n) (F118.labM (bodyOf Try.f118) tabR tyR true (cs118 s118 n) m) (3 + 1) 1 _ = _
    rw [Fn.labD_succ, p118_1]
    simp only [e1, e2]
    rfl
theorem w118 (s118 : (List Ent) → Dv → Nat → Option (Jd × (Option (Int × List Int)))) (n : Nat) (x : PTs.den F118.ps) : F118.body (bodyOf Try.f118) tabR tyR true (cs118 s118 n) (F118.labX (bodyOf Try.f118) tabR tyR true (cs118 s118 n) (F118.labM (bodyOf Try.f118) tabR tyR true (cs118 s118 n) n) F118.D) x = o118_0 s118 n (l118_1 s118 n n) x.1 x.2.1 x.2.2.1 := by
  have e1 : ∀ t0 t2 t4 t6_0 t6_1 t6_2 t6_3 t6_4 t6_6 t6_7 t6_8 t6_9 t6_11 t6_12 t6_13 t6_14 t6_16 t8 t23 t24 t25, F118.labX (bodyOf Try.f118) tabR tyR true (cs118 s118 n) (F118.labM (bodyOf Try.f118) tabR tyR true (cs118 s118 n) n) 4 1 (st118_1 t0 t2 t4 t6_0 t6_1 t6_2 t6_3 t6_4 t6_6 t6_7 t6_8 t6_9 t6_11 t6_12 t6_13 t6_14 t6_16 t8 t23 t24 t25) = (l118_1 s118 n n) t0 t2 t4 t6_0 t6_1 t6_2 t6_3 t6_4 t6_6 t6_7 t6_8 t6_9 t6_11 t6_12 t6_13 t6_14 t6_16 t8 t23 t24 t25 := fun t0 t2 t4 t6_0 t6_1 t6_2 t6_3 t6_4 t6_6 t6_7 t6_8 t6_9 t6_11 t6_12 t6_13 t6_14 t6_16 t8 t23 t24 t25 => (Fn.labX_loop _ _ _ _ _ _ _ _ _ _ (by kernel_rfl)).trans ((m118_1 s118 n n) t0 t2 t4 t6_0 t6_1 t6_2 t6_3 t6_4 t6_6 t6_7 t6_8 t6_9 t6_11 t6_12 t6_13 t6_14 t6_16 t8 t23 t24 t25)
  show F118.body (bodyOf Try.f118) tabR tyR true (cs118 s118 n) (F118.labX (bodyOf Try.f118) tabR tyR true (cs118 s118 n) (F118.labM (bodyOf Try.f118) tabR tyR true (cs118 s118 n) n) 4) x = _
  rw [p118_0]
  simp only [e1]
  try rfl
theorem call118 : Callable Try.prog 118 := callable_of Try.func118 (by kernel_rfl) (by kernel_rfl)
theorem okr118 : ∀ n : Nat, Cal.Ok Try.prog ⟨118, F118.ps, F118.rs, F118.fr, fun a => f118 n a.1 a.2.1 a.2.2.1⟩
  | 0 => ⟨by kernel_rfl, fun a r h => by cases h⟩
  | n + 1 => cal_of_fn F118 (code := bodyOf Try.f118) Try.func118 (by kernel_rfl) (by kernel_rfl) call118 htabR (cs := cs118 (f118 n) n) (fun c hc => by
      simp only [cs118, List.mem_cons, List.not_mem_nil, or_false] at hc
      rcases hc with rfl | rfl | rfl | rfl | rfl
      · exact ok59 n
      · exact ok62 n
      · exact (okr118 n)
      · exact ok147 n
      · exact ok148) (fun _ => mixed) (by kernel_rfl) (by kernel_rfl) (by decide) (fun x => ⟨n, w118 (f118 n) n x⟩)
theorem ok118 (n : Nat) : Cal.Ok Try.prog ⟨118, F118.ps, F118.rs, F118.fr, fun a => f118 n a.1 a.2.1 a.2.2.1⟩ := (okr118 n)
-- (*tranship/check.fault).path
def o119_0 (n : Nat) (k1 : Int → (List Int) → (List Int) → Int → Option ((List Int))) (a0 : Int × List Int × Unit) : Option ((List Int)) :=
  ckI ((a0.2.1.length : Int) - (1 : Int)) <|
  k1 a0.1 a0.2.1 ([] : List Int) ((a0.2.1.length : Int) - (1 : Int))
def o119_1 (n : Nat) (k1 : Int → (List Int) → (List Int) → Int → Option ((List Int))) (t0_0 : Int) (t0_1 : List Int) (t3 : List Int) (t4 : Int) : Option ((List Int)) :=
  ifB (decide ((0 : Int) ≤ t4)) (
    atI t0_1 t4 fun x1 =>
    ckB (decide ((t3.length + [x1].length) * 8 ≤ 140737488355328) && decide (t3.length + [x1].length ≤ 9223372036854775807)) <|
    ckI (t4 - (1 : Int)) <|
    k1 t0_0 t0_1 (t3 ++ [x1]) (t4 - (1 : Int))) (
    some t3)
def l119_1 (n : Nat) : Nat → Int → (List Int) → (List Int) → Int → Option ((List Int))
  | 0, _, _, _, _ => none
  | m + 1, t0_0, t0_1, t3, t4 => o119_1 n (l119_1 n m) t0_0 t0_1 t3 t4
def f119 (n : Nat) (a0 : Int × List Int × Unit) : Option ((List Int)) := o119_0 n (l119_1 n n) a0
def an119 : An := (.n none [] 0 .z (.n none [] 0 .z (.n none [] 0 (.n none [] 0 .z (.n none [] 0 (.n (some 1) [(0, .one .k), (3, .one (.r 0 3 .int true)), (4, .one .c)] 1 .z .z) .z)) .z)))
def F119 : Fn := { f := 119, a := an119, vars := [.tmp 2], ps := [.ro [(false, .int), (true, .int)]], rs := [.sl .int], own := false, fr := true, nt := 26, D := 3, loops := [1] }
def cs119 (n : Nat) : List Cal := []
def st119_1 (t0_0 : Int) (t0_1 : List Int) (t3 : List Int) (t4 : Int) : SS := ⟨[(0, .v (.one (.rc [.int t0_0, .sl .int t0_1]))), (3, .v (.one (.arr 0))), (4, .v (.one (.c (.int t4) true)))], [(0, some (.row 3 .int t3 true))], 1⟩
theorem p119_0 (n : Nat) (lab : Nat → SS → Option (RT.den F119.rs)) (x : PTs.den F119.ps) : F119.body (bodyOf Try.f119) tabR tyR true (cs119 n) lab x = o119_0 n (fun t0_0 t0_1 t3 t4 => lab 1 (st119_1 t0_0 t0_1 t3 t4)) x.1 := by kernel_rfl
theorem p119_1 (n : Nat) (lab : Nat → SS → Option (RT.den F119.rs)) (t0_0 : Int) (t0_1 : List Int) (t3 : List Int) (t4 : Int) : F119.at (bodyOf Try.f119) tabR tyR true (cs119 n) lab 1 (st119_1 t0_0 t0_1 t3 t4) = o119_1 n (fun t0_0 t0_1 t3 t4 => lab 1 (st119_1 t0_0 t0_1 t3 t4)) t0_0 t0_1 t3 t4 := by kernel_rfl
theorem m119_1 (n : Nat) : ∀ m : Nat, (∀ t0_0 t0_1 t3 t4, F119.labM (bodyOf Try.f119) tabR tyR true (cs119 n) m 1 (st119_1 t0_0 t0_1 t3 t4) = l119_1 n m t0_0 t0_1 t3 t4) := by
  intro m
  induction m with
  | zero => exact fun _ _ _ _ => rfl
  | succ m ih =>
    intro t0_0 t0_1 t3 t4
    have e1 : ∀ t0_0 t0_1 t3 t4, F119.labX (bodyOf Try.f119) tabR tyR true (cs119 n) (F119.labM (bodyOf Try.f119) tabR tyR true (cs119 n) m) 2 1 (st119_1 t0_0 t0_1 t3 t4) = (l119_1 n m) t0_0 t0_1 t3 t4 := fun t0_0 t0_1 t3 t4 => (Fn.labX_loop _ _ _ _ _ _ _ _ _ _ (by kernel_rfl)).trans (ih t0_0 t0_1 t3 t4)
    rw [Fn.labM_succ]
    show F119.labD (bodyOf Try.f119) tabR tyR true (cs119 n) (F119.labM (bodyOf Try.f119) tabR tyR true (cs119 n) m) (2 + 1) 1 _ = _
    rw [Fn.labD_succ, p119_1]
    simp only [e1]
    rfl
theorem w119 (n : Nat) (x : PTs.den F119.ps) : F119.body (bodyOf Try.f119) tabR tyR true (cs119 n) (F119.labX (bodyOf Try.f119) tabR tyR true (cs119 n) (F119.labM (bodyOf Try.f119) tabR tyR true (cs119 n) n) F119.D) x = o119_0 n (l119_1 n n) x.1 := by
  have e1 : ∀ t0_0 t0_1 t3 t4, F119.labX (bodyOf Try.f119) tabR tyR true (cs119 n) (F119.labM (bodyOf Try.f119) tabR tyR true (cs119 n) n) 3 1 (st119_1 t0_0 t0_1 t3 t4) = (l119_1 n n) t0_0 t0_1 t3 t4 := fun t0_0 t0_1 t3 t4 => (Fn.labX_loop _ _ _ _ _ _ _ _ _ _ (by kernel_rfl)).trans ((m119_1 n n) t0_0 t0_1 t3 t4)
  show F119.body (bodyOf Try.f119) tabR tyR true (cs119 n) (F119.labX (bodyOf Try.f119) tabR tyR true (cs119 n) (F119.labM (bodyOf Try.f119) tabR tyR true (cs119 n) n) 3) x = _
  rw [p119_0]
  simp only [e1]
  try rfl
theorem call119 : Callable Try.prog 119 := callable_of Try.func119 (by kernel_rfl) (by kernel_rfl)
theorem ok119 (n : Nat) : Cal.Ok Try.prog ⟨119, F119.ps, F119.rs, F119.fr, fun a => f119 n a.1⟩ :=
  cal_of_fn F119 (code := bodyOf Try.f119) Try.func119 (by kernel_rfl) (by kernel_rfl) call119 htabR (cs := cs119 n) (fun c hc => by simp only [cs119, List.not_mem_nil] at hc) (fun _ => mixed) (by kernel_rfl) (by kernel_rfl) (by decide) (fun x => ⟨n, w119 n x⟩)
-- tranship/check.Judge
def o68_0 (n : Nat) (k1 : (List Ent) → Nat → Dv → Bool → Int → Int → Int → Int → Int → Int → Int → Int → Int → Int → Int → Int → Int → Option (Jd × Int × (List Int))) (a0 : List Ent) (a1 : Dv) (a2 : Nat) : Option (Jd × Int × (List Int)) :=
  (f59 n a0 (13 : Int) (0 : Int) ([] : List Jd)).bind fun x1 =>
  ifB (!x1.2) (
    some ((Jd.mk false (Tm.mk (0 : Int) (0 : Int) (0 : Int) (0 : Int) ([] : List Tm)) (Tm.mk (0 : Int) (0 : Int) (0 : Int) (0 : Int) ([] : List Tm)) (Tm.mk (0 : Int) (0 : Int) (0 : Int) (0 : Int) ([] : List Tm)) (0 : Int)), (1 : Int), ([] : List Int))) (
    (f117 n a1).bind fun x2 =>
    ifB (!x2) (
      some ((Jd.mk false (Tm.mk (0 : Int) (0 : Int) (0 : Int) (0 : Int) ([] : List Tm)) (Tm.mk (0 : Int) (0 : Int) (0 : Int) (0 : Int) ([] : List Tm)) (Tm.mk (0 : Int) (0 : Int) (0 : Int) (0 : Int) ([] : List Tm)) (0 : Int)), (1 : Int), ([] : List Int))) (
      k1 a0 a2 a1 false (0 : Int) (0 : Int) (0 : Int) (0 : Int) (0 : Int) (0 : Int) (0 : Int) (0 : Int) (0 : Int) (0 : Int) (0 : Int) (0 : Int) (0 : Int)))
def o68_1 (n : Nat) (t0 : List Ent) (t2 : Nat) (t4 : Dv) (t6_0 : Bool) (t6_1 : Int) (t6_2 : Int) (t6_3 : Int) (t6_4 : Int) (t6_6 : Int) (t6_7 : Int) (t6_8 : Int) (t6_9 : Int) (t6_11 : Int) (t6_12 : Int) (t6_13 : Int) (t6_14 : Int) (t6_16 : Int) : Option (Jd × Int × (List Int)) :=
  (f118 n t0 t4 t2).bind fun x3 =>
  ifB x3.2.isSome (
    thO x3.2 fun x4 =>
    (f119 n (x4.1, x4.2, ())).bind fun x5 =>
    some ((Jd.mk false (Tm.mk (0 : Int) (0 : Int) (0 : Int) (0 : Int) ([] : List Tm)) (Tm.mk (0 : Int) (0 : Int) (0 : Int) (0 : Int) ([] : List Tm)) (Tm.mk (0 : Int) (0 : Int) (0 : Int) (0 : Int) ([] : List Tm)) (0 : Int)), x4.1, x5)) (
    some (x3.1, (0 : Int), ([] : List Int)))
def c68_1 (n : Nat) (t0 : List Ent) (t2 : Nat) (t4 : Dv) (t6_0 : Bool) (t6_1 : Int) (t6_2 : Int) (t6_3 : Int) (t6_4 : Int) (t6_6 : Int) (t6_7 : Int) (t6_8 : Int) (t6_9 : Int) (t6_11 : Int) (t6_12 : Int) (t6_13 : Int) (t6_14 : Int) (t6_16 : Int) : Option (Jd × Int × (List Int)) :=
  o68_1 n t0 t2 t4 t6_0 t6_1 t6_2 t6_3 t6_4 t6_6 t6_7 t6_8 t6_9 t6_11 t6_12 t6_13 t6_14 t6_16
def f68 (n : Nat) (a0 : List Ent) (a1 : Dv) (a2 : Nat) : Option (Jd × Int × (List Int)) := o68_0 n (c68_1 n) a0 a1 a2
def an68 : An := (.n none [] 0 .z (.n none [] 0 .z (.n (some 1) [(0, .one (.d .ent false)), (2, .one .c), (4, .ps 0 .dv false), (6, .p 1 [.c, .c, .c, .c, .c, .k, .c, .c, .c, .c, .k, .c, .c, .c, .c, .k, .c])] 2 .z (.n none [] 0 .z (.n none [] 0 (.n none [] 0 .z (.n none [(12, .o)] 0 .z .z)) .z)))))
def F68 : Fn := { f := 68, a := an68, vars := [.cell 6 49, .tmp 7, .tmp 8], ps := [.sl .ent, .st .dv, .sc .flt], rs := [.st .jd, .sc .int, .sl .int], own := false, fr := true, nt := 43, D := 3, loops := [] }
def cs68 (n : Nat) : List Cal := [⟨59, [.sl .ent, .sc .int, .sc .int, .sl .jd], [.sl .ent, .sc .bool], true, fun a => f59 n a.1 a.2.1 a.2.2.1 a.2.2.2.1⟩, ⟨117, [.st .dv], [.sc .bool], true, fun a => f117 n a.1⟩, ⟨118, [.sl .ent, .st .dv, .sc .flt], [.st .jd, .fb], true, fun a => f118 n a.1 a.2.1 a.2.2.1⟩, ⟨119, [.ro [(false, .int), (true, .int)]], [.sl .int], true, fun a => f119 n a.1⟩]
def st68_1 (t0 : List Ent) (t2 : Nat) (t4 : Dv) (t6_0 : Bool) (t6_1 : Int) (t6_2 : Int) (t6_3 : Int) (t6_4 : Int) (t6_6 : Int) (t6_7 : Int) (t6_8 : Int) (t6_9 : Int) (t6_11 : Int) (t6_12 : Int) (t6_13 : Int) (t6_14 : Int) (t6_16 : Int) : SS := ⟨[(0, .v (.one (.c (.sl .ent t0) false))), (2, .v (.one (.c (.flt t2) true))), (4, .v (.one (.ptr 0 0))), (6, .v (.one (.ptr 1 0)))], [(0, some (.bst .dv t4 false)), (1, some (.box [.c (.bool t6_0) true, .c (.int t6_1) true, .c (.int t6_2) true, .c (.int t6_3) true, .c (.int t6_4) true, .nils, .c (.int t6_6) true, .c (.int t6_7) true, .c (.int t6_8) true, .c (.int t6_9) true, .nils, .c (.int t6_11) true, .c (.int t6_12) true, .c (.int t6_13) true, .c (.int t6_14) true, .nils, .c (.int t6_16) true]))], 2⟩
theorem p68_0 (n : Nat) (lab : Nat → SS → Option (RT.den F68.rs)) (x : PTs.den F68.ps) : F68.body (bodyOf Try.f68) tabR tyR true (cs68 n) lab x = o68_0 n (fun t0 t2 t4 t6_0 t6_1 t6_2 t6_3 t6_4 t6_6 t6_7 t6_8 t6_9 t6_11 t6_12 t6_13 t6_14 t6_16 => lab 1 (st68_1 t0 t2 t4 t6_0 t6_1 t6_2 t6_3 t6_4 t6_6 t6_7 t6_8 t6_9 t6_11 t6_12 t6_13 t6_14 t6_16)) x.1 x.2.1 x.2.2.1 := by kernel_rfl
theorem p68_1 (n : Nat) (lab : Nat → SS → Option (RT.den F68.rs)) (t0 : List Ent) (t2 : Nat) (t4 : Dv) (t6_0 : Bool) (t6_1 : Int) (t6_2 : Int) (t6_3 : Int) (t6_4 : Int) (t6_6 : Int) (t6_7 : Int) (t6_8 : Int) (t6_9 : Int) (t6_11 : Int) (t6_12 : Int) (t6_13 : Int) (t6_14 : Int) (t6_16 : Int) : F68.at (bodyOf Try.f68) tabR tyR true (cs68 n) lab 1 (st68_1 t0 t2 t4 t6_0 t6_1 t6_2 t6_3 t6_4 t6_6 t6_7 t6_8 t6_9 t6_11 t6_12 t6_13 t6_14 t6_16) = o68_1 n t0 t2 t4 t6_0 t6_1 t6_2 t6_3 t6_4 t6_6 t6_7 t6_8 t6_9 t6_11 t6_12 t6_13 t6_14 t6_16 := by kernel_rfl
theorem n68_1 (n : Nat) (rec : Nat → SS → Option (RT.den F68.rs)) (d : Nat) (t0 : List Ent) (t2 : Nat) (t4 : Dv) (t6_0 : Bool) (t6_1 : Int) (t6_2 : Int) (t6_3 : Int) (t6_4 : Int) (t6_6 : Int) (t6_7 : Int) (t6_8 : Int) (t6_9 : Int) (t6_11 : Int) (t6_12 : Int) (t6_13 : Int) (t6_14 : Int) (t6_16 : Int) : F68.labD (bodyOf Try.f68) tabR tyR true (cs68 n) rec (d + 1) 1 (st68_1 t0 t2 t4 t6_0 t6_1 t6_2 t6_3 t6_4 t6_6 t6_7 t6_8 t6_9 t6_11 t6_12 t6_13 t6_14 t6_16) = c68_1 n t0 t2 t4 t6_0 t6_1 t6_2 t6_3 t6_4 t6_6 t6_7 t6_8 t6_9 t6_11 t6_12 t6_13 t6_14 t6_16 := by
  show F68.labD (bodyOf Try.f68) tabR tyR true (cs68 n) rec (d + 1) 1 _ = _
  rw [Fn.labD_succ, p68_1]
  rfl
theorem w68 (n : Nat) (x : PTs.den F68.ps) : F68.body (bodyOf Try.f68) tabR tyR true (cs68 n) (F68.labX (bodyOf Try.f68) tabR tyR true (cs68 n) (F68.labM (bodyOf Try.f68) tabR tyR true (cs68 n) 0) F68.D) x = o68_0 n (c68_1 n) x.1 x.2.1 x.2.2.1 := by
  have e1 : ∀ t0 t2 t4 t6_0 t6_1 t6_2 t6_3 t6_4 t6_6 t6_7 t6_8 t6_9 t6_11 t6_12 t6_13 t6_14 t6_16, F68.labX (bodyOf Try.f68) tabR tyR true (cs68 n) (F68.labM (bodyOf Try.f68) tabR tyR true (cs68 n) 0) 3 1 (st68_1 t0 t2 t4 t6_0 t6_1 t6_2 t6_3 t6_4 t6_6 t6_7 t6_8 t6_9 t6_11 t6_12 t6_13 t6_14 t6_16) = c68_1 n t0 t2 t4 t6_0 t6_1 t6_2 t6_3 t6_4 t6_6 t6_7 t6_8 t6_9 t6_11 t6_12 t6_13 t6_14 t6_16 := fun t0 t2 t4 t6_0 t6_1 t6_2 t6_3 t6_4 t6_6 t6_7 t6_8 t6_9 t6_11 t6_12 t6_13 t6_14 t6_16 => (Fn.labX_step _ _ _ _ _ _ _ _ _ _ (by kernel_rfl)).trans (n68_1 n (F68.labM (bodyOf Try.f68) tabR tyR true (cs68 n) 0) 2 t0 t2 t4 t6_0 t6_1 t6_2 t6_3 t6_4 t6_6 t6_7 t6_8 t6_9 t6_11 t6_12 t6_13 t6_14 t6_16)
  show F68.body (bodyOf Try.f68) tabR tyR true (cs68 n) (F68.labX (bodyOf Try.f68) tabR tyR true (cs68 n) (F68.labM (bodyOf Try.f68) tabR tyR true (cs68 n) 0) 3) x = _
  rw [p68_0]
  simp only [e1]
  try rfl
theorem call68 : Callable Try.prog 68 := callable_of Try.func68 (by kernel_rfl) (by kernel_rfl)
theorem ok68 (n : Nat) : Cal.Ok Try.prog ⟨68, F68.ps, F68.rs, F68.fr, fun a => f68 n a.1 a.2.1 a.2.2.1⟩ :=
  cal_of_fn F68 (code := bodyOf Try.f68) Try.func68 (by kernel_rfl) (by kernel_rfl) call68 htabR (cs := cs68 n) (fun c hc => by
      simp only [cs68, List.mem_cons, List.not_mem_nil, or_false] at hc
      rcases hc with rfl | rfl | rfl | rfl
      · exact ok59 n
      · exact ok117 n
      · exact ok118 n
      · exact ok119 n) (fun _ => mixed) (by kernel_rfl) (by kernel_rfl) (by decide) (fun x => ⟨0, w68 n x⟩)
-- tranship/check.Ctx
def o73_0 (n : Nat) (k1 : (List Dv) → Nat → (List Dv) → Int → Int → Option ((List Ent) × Int × (List Int))) (a0 : List Dv) (a1 : Nat) : Option ((List Ent) × Int × (List Int)) :=
  k1 a0 a1 a0 (a0.length : Int) (0 : Int)
def o73_1 (n : Nat) (k1 : (List Dv) → Nat → (List Dv) → Int → Int → Option ((List Ent) × Int × (List Int))) (k2 : Nat → (List Ent) → (List Dv) → Int → Int → Option ((List Ent) × Int × (List Int))) (t0 : List Dv) (t1 : Nat) (t14 : List Dv) (t15 : Int) (t16 : Int) : Option ((List Ent) × Int × (List Int)) :=
  ifB (decide (t16 < t15)) (
    atI t14 t16 fun x1 =>
    (f117 n x1).bind fun x2 =>
    ifB (!x2) (
      some (([] : List Ent), (1 : Int), ([] : List Int))) (
      ckI (t16 + (1 : Int)) <|
      k1 t0 t1 t14 t15 (t16 + (1 : Int)))) (
    ckB (decide (0 ≤ (0 : Int)) && (decide ((0 : Int) ≤ (t0.length : Int)) && decide ((64 : Nat) * (t0.length : Int) ≤ 281474976710656))) <|
    k2 t1 (List.replicate (0 : Int).toNat (Ent.mk (Tm.mk (0 : Int) (0 : Int) (0 : Int) (0 : Int) ([] : List Tm)) (0 : Int))) t0 (t0.length : Int) (0 : Int))
def o73_2 (n : Nat) (k3 : Nat → (List Ent) → Jd → (List Dv) → Int → Int → Option ((List Ent) × Int × (List Int))) (t1 : Nat) (t9 : List Ent) (t27 : List Dv) (t28 : Int) (t29 : Int) : Option ((List Ent) × Int × (List Int)) :=
  ifB (decide (t29 < t28)) (
    atI t27 t29 fun x3 =>
    (f118 n t9 x3 t1).bind fun x4 =>
    ifB x4.2.isSome (
      thO x4.2 fun x5 =>
      ckB (decide ((x5.2.length + [t29].length) * 8 ≤ 140737488355328) && decide (x5.2.length + [t29].length ≤ 9223372036854775807)) <|
      (f119 n (x5.1, (x5.2 ++ [t29]), ())).bind fun x6 =>
      some (([] : List Ent), x5.1, x6)) (
      ifB x4.1.eq (
        some (([] : List Ent), (3 : Int), [t29])) (
        ifB (!decide (x4.1.a.kind = (1 : Int))) (
          some (([] : List Ent), (3 : Int), [t29])) (
          ckI (x4.1.a.i + (1 : Int)) <|
          ifB (!decide (x4.1.i = (x4.1.a.i + (1 : Int)))) (
            some (([] : List Ent), (3 : Int), [t29])) (
            k3 t1 t9 x4.1 t27 t28 t29))))) (
    some (t9, (0 : Int), ([] : List Int)))
def o73_3 (n : Nat) (k2 : Nat → (List Ent) → (List Dv) → Int → Int → Option ((List Ent) × Int × (List Int))) (t1 : Nat) (t9 : List Ent) (t12 : Jd) (t27 : List Dv) (t28 : Int) (t29 : Int) : Option ((List Ent) × Int × (List Int)) :=
  ckB (decide ((t9.length + [(Ent.mk (Tm.mk t12.u.kind t12.u.i t12.u.j t12.u.n t12.u.kids) t12.a.i)].length) * 64 ≤ 140737488355328) && decide (t9.length + [(Ent.mk (Tm.mk t12.u.kind t12.u.i t12.u.j t12.u.n t12.u.kids) t12.a.i)].length ≤ 9223372036854775807)) <|
  ckI (t29 + (1 : Int)) <|
  k2 t1 (t9 ++ [(Ent.mk (Tm.mk t12.u.kind t12.u.i t12.u.j t12.u.n t12.u.kids) t12.a.i)]) t27 t28 (t29 + (1 : Int))
def c73_3 (n : Nat) (k2 : Nat → (List Ent) → (List Dv) → Int → Int → Option ((List Ent) × Int × (List Int))) (t1 : Nat) (t9 : List Ent) (t12 : Jd) (t27 : List Dv) (t28 : Int) (t29 : Int) : Option ((List Ent) × Int × (List Int)) :=
  o73_3 n k2 t1 t9 t12 t27 t28 t29
def l73_2 (n : Nat) : Nat → Nat → (List Ent) → (List Dv) → Int → Int → Option ((List Ent) × Int × (List Int))
  | 0, _, _, _, _, _ => none
  | m + 1, t1, t9, t27, t28, t29 => o73_2 n (c73_3 n (l73_2 n m)) t1 t9 t27 t28 t29
def l73_1 (n : Nat) : Nat → (List Dv) → Nat → (List Dv) → Int → Int → Option ((List Ent) × Int × (List Int))
  | 0, _, _, _, _, _ => none
  | m + 1, t0, t1, t14, t15, t16 => o73_1 n (l73_1 n m) (l73_2 n m) t0 t1 t14 t15 t16
def f73 (n : Nat) (a0 : List Dv) (a1 : Nat) : Option ((List Ent) × Int × (List Int)) := o73_0 n (l73_1 n n) a0 a1
def an73 : An := (.n none [] 0 .z (.n none [] 0 (.n none [] 0 .z (.n none [] 0 (.n (some 1) [(0, .one (.d .dv false)), (1, .one .c), (14, .one (.d .dv false)), (15, .one .c), (16, .one .c)] 0 .z .z) .z)) (.n none [] 0 .z (.n none [] 0 (.n none [] 0 .z (.n none [] 0 (.n (some 2) [(1, .one .c), (9, .one (.r 0 45 .ent true)), (27, .one (.d .dv false)), (28, .one .c), (29, .one .c)] 1 (.n none [] 0 .z (.n none [] 0 .z (.n none [] 0 (.n none [] 0 (.n none [] 0 .z (.n none [] 0 .z (.n none [] 0 (.n none [] 0 .z (.n none [(13, .o)] 0 .z .z)) (.n (some 3) [(1, .one .c), (9, .one (.r 0 45 .ent true)), (12, .ps 1 .jd true), (27, .one (.d .dv false)), (28, .one .c), (29, .one .c)] 2 .z .z)))) .z) .z))) .z) .z)) .z))))
def F73 : Fn := { f := 73, a := an73, vars := [.tmp 4, .tmp 5, .tmp 6], ps := [.sl .dv, .sc .flt], rs := [.sl .ent, .sc .int, .sl .int], own := false, fr := true, nt := 89, D := 5, loops := [1, 2] }
def cs73 (n : Nat) : List Cal := [⟨117, [.st .dv], [.sc .bool], true, fun a => f117 n a.1⟩, ⟨118, [.sl .ent, .st .dv, .sc .flt], [.st .jd, .fb], true, fun a => f118 n a.1 a.2.1 a.2.2.1⟩, ⟨119, [.ro [(false, .int), (true, .int)]], [.sl .int], true, fun a => f119 n a.1⟩]
def st73_1 (t0 : List Dv) (t1 : Nat) (t14 : List Dv) (t15 : Int) (t16 : Int) : SS := ⟨[(0, .v (.one (.c (.sl .dv t0) false))), (1, .v (.one (.c (.flt t1) true))), (14, .v (.one (.c (.sl .dv t14) false))), (15, .v (.one (.c (.int t15) true))), (16, .v (.one (.c (.int t16) true)))], [], 0⟩
def st73_2 (t1 : Nat) (t9 : List Ent) (t27 : List Dv) (t28 : Int) (t29 : Int) : SS := ⟨[(1, .v (.one (.c (.flt t1) true))), (9, .v (.one (.arr 0))), (27, .v (.one (.c (.sl .dv t27) false))), (28, .v (.one (.c (.int t28) true))), (29, .v (.one (.c (.int t29) true)))], [(0, some (.row 45 .ent t9 true))], 1⟩
def st73_3 (t1 : Nat) (t9 : List Ent) (t12 : Jd) (t27 : List Dv) (t28 : Int) (t29 : Int) : SS := ⟨[(1, .v (.one (.c (.flt t1) true))), (9, .v (.one (.arr 0))), (12, .v (.one (.ptr 1 0))), (27, .v (.one (.c (.sl .dv t27) false))), (28, .v (.one (.c (.int t28) true))), (29, .v (.one (.c (.int t29) true)))], [(0, some (.row 45 .ent t9 true)), (1, some (.bst .jd t12 true))], 2⟩
theorem p73_0 (n : Nat) (lab : Nat → SS → Option (RT.den F73.rs)) (x : PTs.den F73.ps) : F73.body (bodyOf Try.f73) tabR tyR true (cs73 n) lab x = o73_0 n (fun t0 t1 t14 t15 t16 => lab 1 (st73_1 t0 t1 t14 t15 t16)) x.1 x.2.1 := by kernel_rfl
theorem p73_1 (n : Nat) (lab : Nat → SS → Option (RT.den F73.rs)) (t0 : List Dv) (t1 : Nat) (t14 : List Dv) (t15 : Int) (t16 : Int) : F73.at (bodyOf Try.f73) tabR tyR true (cs73 n) lab 1 (st73_1 t0 t1 t14 t15 t16) = o73_1 n (fun t0 t1 t14 t15 t16 => lab 1 (st73_1 t0 t1 t14 t15 t16)) (fun t1 t9 t27 t28 t29 => lab 2 (st73_2 t1 t9 t27 t28 t29)) t0 t1 t14 t15 t16 := by kernel_rfl
theorem p73_2 (n : Nat) (lab : Nat → SS → Option (RT.den F73.rs)) (t1 : Nat) (t9 : List Ent) (t27 : List Dv) (t28 : Int) (t29 : Int) : F73.at (bodyOf Try.f73) tabR tyR true (cs73 n) lab 2 (st73_2 t1 t9 t27 t28 t29) = o73_2 n (fun t1 t9 t12 t27 t28 t29 => lab 3 (st73_3 t1 t9 t12 t27 t28 t29)) t1 t9 t27 t28 t29 := by kernel_rfl
theorem p73_3 (n : Nat) (lab : Nat → SS → Option (RT.den F73.rs)) (t1 : Nat) (t9 : List Ent) (t12 : Jd) (t27 : List Dv) (t28 : Int) (t29 : Int) : F73.at (bodyOf Try.f73) tabR tyR true (cs73 n) lab 3 (st73_3 t1 t9 t12 t27 t28 t29) = o73_3 n (fun t1 t9 t27 t28 t29 => lab 2 (st73_2 t1 t9 t27 t28 t29)) t1 t9 t12 t27 t28 t29 := by kernel_rfl
theorem n73_3 (n : Nat) (rec : Nat → SS → Option (RT.den F73.rs)) (k2 : Nat → (List Ent) → (List Dv) → Int → Int → Option ((List Ent) × Int × (List Int))) (h2 : ∀ t1 t9 t27 t28 t29, rec 2 (st73_2 t1 t9 t27 t28 t29) = k2 t1 t9 t27 t28 t29) (d : Nat) (t1 : Nat) (t9 : List Ent) (t12 : Jd) (t27 : List Dv) (t28 : Int) (t29 : Int) : F73.labD (bodyOf Try.f73) tabR tyR true (cs73 n) rec (d + 1) 3 (st73_3 t1 t9 t12 t27 t28 t29) = c73_3 n k2 t1 t9 t12 t27 t28 t29 := by
  have e2 : ∀ t1 t9 t27 t28 t29, F73.labX (bodyOf Try.f73) tabR tyR true (cs73 n) rec d 2 (st73_2 t1 t9 t27 t28 t29) = k2 t1 t9 t27 t28 t29 := fun t1 t9 t27 t28 t29 => (Fn.labX_loop _ _ _ _ _ _ _ _ _ _ (by kernel_rfl)).trans (h2 t1 t9 t27 t28 t29)
  show F73.labD (bodyOf Try.f73) tabR tyR true (cs73 n) rec (d + 1) 3 _ = _
  rw [Fn.labD_succ, p73_3]
  simp only [e2]
  rfl
theorem m73_2 (n : Nat) : ∀ m : Nat, (∀ t1 t9 t27 t28 t29, F73.labM (bodyOf Try.f73) tabR tyR true (cs73 n) m 2 (st73_2 t1 t9 t27 t28 t29) = l73_2 n m t1 t9 t27 t28 t29) := by
  intro m
  induction m with
  | zero => exact fun _ _ _ _ _ => rfl
  | succ m ih =>
    intro t1 t9 t27 t28 t29
    have e3 : ∀ t1 t9 t12 t27 t28 t29, F73.labX (bodyOf Try.f73) tabR tyR true (cs73 n) (F73.labM (bodyOf Try.f73) tabR tyR true (cs73 n) m) 4 3 (st73_3 t1 t9 t12 t27 t28 t29) = c73_3 n (l73_2 n m) t1 t9 t12 t27 t28 t29 := fun t1 t9 t12 t27 t28 t29 => (Fn.labX_step _ _ _ _ _ _ _ _ _ _ (by kernel_rfl)).trans (n73_3 n (F73.labM (bodyOf Try.f73) tabR tyR true (cs73 n) m) (l73_2 n m) ih 3 t1 t9 t12 t27 t28 t29)
    rw [Fn.labM_succ]
    show F73.labD (bodyOf Try.f73) tabR tyR true (cs73 n) (F73.labM (bodyOf Try.f73) tabR tyR true (cs73 n) m) (4 + 1) 2 _ = _
    rw [Fn.labD_succ, p73_2]
    simp only [e3]
    rfl
theorem m73_1 (n : Nat) : ∀ m : Nat, (∀ t0 t1 t14 t15 t16, F73.labM (bodyOf Try.f73) tabR tyR true (cs73 n) m 1 (st73_1 t0 t1 t14 t15 t16) = l73_1 n m t0 t1 t14 t15 t16) := by
  intro m
  induction m with
  | zero => exact fun _ _ _ _ _ => rfl
  | succ m ih =>
    intro t0 t1 t14 t15 t16
    have e1 : ∀ t0 t1 t14 t15 t16, F73.labX (bodyOf Try.f73) tabR tyR true (cs73 n) (F73.labM (bodyOf Try.f73) tabR tyR true (cs73 n) m) 4 1 (st73_1 t0 t1 t14 t15 t16) = (l73_1 n m) t0 t1 t14 t15 t16 := fun t0 t1 t14 t15 t16 => (Fn.labX_loop _ _ _ _ _ _ _ _ _ _ (by kernel_rfl)).trans (ih t0 t1 t14 t15 t16)
    have e2 : ∀ t1 t9 t27 t28 t29, F73.labX (bodyOf Try.f73) tabR tyR true (cs73 n) (F73.labM (bodyOf Try.f73) tabR tyR true (cs73 n) m) 4 2 (st73_2 t1 t9 t27 t28 t29) = (l73_2 n m) t1 t9 t27 t28 t29 := fun t1 t9 t27 t28 t29 => (Fn.labX_loop _ _ _ _ _ _ _ _ _ _ (by kernel_rfl)).trans ((m73_2 n m) t1 t9 t27 t28 t29)
    rw [Fn.labM_succ]
    show F73.labD (bodyOf Try.f73) tabR tyR true (cs73 n) (F73.labM (bodyOf Try.f73) tabR tyR true (cs73 n) m) (4 + 1) 1 _ = _
    rw [Fn.labD_succ, p73_1]
    simp only [e1, e2]
    rfl
theorem w73 (n : Nat) (x : PTs.den F73.ps) : F73.body (bodyOf Try.f73) tabR tyR true (cs73 n) (F73.labX (bodyOf Try.f73) tabR tyR true (cs73 n) (F73.labM (bodyOf Try.f73) tabR tyR true (cs73 n) n) F73.D) x = o73_0 n (l73_1 n n) x.1 x.2.1 := by
  have e1 : ∀ t0 t1 t14 t15 t16, F73.labX (bodyOf Try.f73) tabR tyR true (cs73 n) (F73.labM (bodyOf Try.f73) tabR tyR true (cs73 n) n) 5 1 (st73_1 t0 t1 t14 t15 t16) = (l73_1 n n) t0 t1 t14 t15 t16 := fun t0 t1 t14 t15 t16 => (Fn.labX_loop _ _ _ _ _ _ _ _ _ _ (by kernel_rfl)).trans ((m73_1 n n) t0 t1 t14 t15 t16)
  show F73.body (bodyOf Try.f73) tabR tyR true (cs73 n) (F73.labX (bodyOf Try.f73) tabR tyR true (cs73 n) (F73.labM (bodyOf Try.f73) tabR tyR true (cs73 n) n) 5) x = _
  rw [p73_0]
  simp only [e1]
  try rfl
theorem call73 : Callable Try.prog 73 := callable_of Try.func73 (by kernel_rfl) (by kernel_rfl)
theorem ok73 (n : Nat) : Cal.Ok Try.prog ⟨73, F73.ps, F73.rs, F73.fr, fun a => f73 n a.1 a.2.1⟩ :=
  cal_of_fn F73 (code := bodyOf Try.f73) Try.func73 (by kernel_rfl) (by kernel_rfl) call73 htabR (cs := cs73 n) (fun c hc => by
      simp only [cs73, List.mem_cons, List.not_mem_nil, or_false] at hc
      rcases hc with rfl | rfl | rfl
      · exact ok117 n
      · exact ok118 n
      · exact ok119 n) (fun _ => mixed) (by kernel_rfl) (by kernel_rfl) (by decide) (fun x => ⟨n, w73 n x⟩)
end Go.Proofs.Ytcaahmielncmpaa
