/-
  What the functions on contexts and judgments compute.
-/
import Derived.Test.YtcaahmielncmpaaGenE
set_option linter.unusedSimpArgs false
set_option linter.unusedVariables false
namespace Go.Proofs.Ytcaahmielncmpaa
open Go Go.RowKit
set_option maxRecDepth 100000
-- tranship/transhipkeep.GreatCtx
-- tranship/ctx.Right
def o41_0 (n : Nat) (k1 : (List Ent) → Int → Int → Option Bool) (a0 : List Ent) : Option Bool :=
  k1 a0 (a0.length : Int) (0 : Int)
def o41_1 (n : Nat) (k1 : (List Ent) → Int → Int → Option Bool) (t5 : List Ent) (t6 : Int) (t7 : Int) : Option Bool :=
  ifB (decide (t7 < t6)) (
    atI t5 t7 fun x1 =>
    ifB (decide (x1.i < (0 : Int))) (
      some false) (
      ifB (decide ((1000 : Int) < x1.i)) (
        some false) (
        (f79 n x1.a).bind fun x2 =>
        ifB (!x2) (
          some false) (
          (f99 n x1.a).bind fun x3 =>
          ifB (decide (t7 < x3)) (
            some false) (
            ckI (t7 + (1 : Int)) <|
            k1 t5 t6 (t7 + (1 : Int))))))) (
    some true)
def l41_1 (n : Nat) : Nat → (List Ent) → Int → Int → Option Bool
  | 0, _, _, _ => none
  | m + 1, t5, t6, t7 => o41_1 n (l41_1 n m) t5 t6 t7
def f41 (n : Nat) (a0 : List Ent) : Option Bool := o41_0 n (l41_1 n n) a0
def an41 : An := (.n none [] 0 .z (.n none [] 0 (.n none [] 0 .z (.n none [] 0 (.n (some 1) [(5, .one (.d .ent false)), (6, .one .c), (7, .one .c)] 0 .z .z) .z)) .z))
def F41 : Fn := { f := 41, a := an41, vars := [.tmp 2], ps := [.sl .ent], rs := [.sc .bool], own := false, fr := true, nt := 34, D := 3, loops := [1] }
def cs41 (n : Nat) : List Cal := [⟨79, [.st .tm], [.sc .bool], true, fun a => f79 n a.1⟩, ⟨99, [.st .tm], [.sc .int], true, fun a => f99 n a.1⟩]
def st41_1 (t5 : List Ent) (t6 : Int) (t7 : Int) : SS := ⟨[(5, .v (.one (.c (.sl .ent t5) false))), (6, .v (.one (.c (.int t6) true))), (7, .v (.one (.c (.int t7) true)))], [], 0⟩
theorem p41_0 (n : Nat) (lab : Nat → SS → Option (RT.den F41.rs)) (x : PTs.den F41.ps) : F41.body (bodyOf Try.f41) tabR tyR true (cs41 n) lab x = o41_0 n (fun t5 t6 t7 => lab 1 (st41_1 t5 t6 t7)) x.1 := by kernel_rfl
theorem p41_1 (n : Nat) (lab : Nat → SS → Option (RT.den F41.rs)) (t5 : List Ent) (t6 : Int) (t7 : Int) : F41.at (bodyOf Try.f41) tabR tyR true (cs41 n) lab 1 (st41_1 t5 t6 t7) = o41_1 n (fun t5 t6 t7 => lab 1 (st41_1 t5 t6 t7)) t5 t6 t7 := by kernel_rfl
theorem m41_1 (n : Nat) : ∀ m : Nat, (∀ t5 t6 t7, F41.labM (bodyOf Try.f41) tabR tyR true (cs41 n) m 1 (st41_1 t5 t6 t7) = l41_1 n m t5 t6 t7) := by
  intro m
  induction m with
  | zero => exact fun _ _ _ => rfl
  | succ m ih =>
    intro t5 t6 t7
    have e1 : ∀ t5 t6 t7, F41.labX (bodyOf Try.f41) tabR tyR true (cs41 n) (F41.labM (bodyOf Try.f41) tabR tyR true (cs41 n) m) 2 1 (st41_1 t5 t6 t7) = (l41_1 n m) t5 t6 t7 := fun t5 t6 t7 => (Fn.labX_loop _ _ _ _ _ _ _ _ _ _ (by kernel_rfl)).trans (ih t5 t6 t7)
    rw [Fn.labM_succ]
    show F41.labD (bodyOf Try.f41) tabR tyR true (cs41 n) (F41.labM (bodyOf Try.f41) tabR tyR true (cs41 n) m) (2 + 1) 1 _ = _
    rw [Fn.labD_succ, p41_1]
    simp only [e1]
    rfl
theorem w41 (n : Nat) (x : PTs.den F41.ps) : F41.body (bodyOf Try.f41) tabR tyR true (cs41 n) (F41.labX (bodyOf Try.f41) tabR tyR true (cs41 n) (F41.labM (bodyOf Try.f41) tabR tyR true (cs41 n) n) F41.D) x = o41_0 n (l41_1 n n) x.1 := by
  have e1 : ∀ t5 t6 t7, F41.labX (bodyOf Try.f41) tabR tyR true (cs41 n) (F41.labM (bodyOf Try.f41) tabR tyR true (cs41 n) n) 3 1 (st41_1 t5 t6 t7) = (l41_1 n n) t5 t6 t7 := fun t5 t6 t7 => (Fn.labX_loop _ _ _ _ _ _ _ _ _ _ (by kernel_rfl)).trans ((m41_1 n n) t5 t6 t7)
  show F41.body (bodyOf Try.f41) tabR tyR true (cs41 n) (F41.labX (bodyOf Try.f41) tabR tyR true (cs41 n) (F41.labM (bodyOf Try.f41) tabR tyR true (cs41 n) n) 3) x = _
  rw [p41_0]
  simp only [e1]
  try rfl
theorem call41 : Callable Try.prog 41 := callable_of Try.func41 (by kernel_rfl) (by kernel_rfl)
theorem ok41 (n : Nat) : Cal.Ok Try.prog ⟨41, F41.ps, F41.rs, F41.fr, fun a => f41 n a.1⟩ :=
  cal_of_fn F41 (code := bodyOf Try.f41) Try.func41 (by kernel_rfl) (by kernel_rfl) call41 htabR (cs := cs41 n) (fun c hc => by
      simp only [cs41, List.mem_cons, List.not_mem_nil, or_false] at hc
      rcases hc with rfl | rfl
      · exact ok79 n
      · exact ok99 n) (fun _ => mixed) (by kernel_rfl) (by kernel_rfl) (by decide) (fun x => ⟨n, w41 n x⟩)
-- tranship/ctx.At
def o39_0 (n : Nat) (k1 : (List Ent) → Int → Int → Int → Int → Int → Option (Tm × Int × Bool)) (a0 : List Ent) (a1 : Int) : Option (Tm × Int × Bool) :=
  ifB (decide (a1 < (0 : Int))) (
    some ((Tm.mk (0 : Int) (0 : Int) (0 : Int) (0 : Int) ([] : List Tm)), (0 : Int), false)) (
    ifB (decide ((a0.length : Int) ≤ a1)) (
      some ((Tm.mk (0 : Int) (0 : Int) (0 : Int) (0 : Int) ([] : List Tm)), (0 : Int), false)) (
      (f41 n a0).bind fun x1 =>
      ifB (!x1) (
        some ((Tm.mk (0 : Int) (0 : Int) (0 : Int) (0 : Int) ([] : List Tm)), (0 : Int), false)) (
        k1 a0 a1 (0 : Int) (0 : Int) (0 : Int) (0 : Int))))
def o39_1 (n : Nat) (t0 : List Ent) (t1 : Int) (t4_0 : Int) (t4_1 : Int) (t4_2 : Int) (t4_3 : Int) : Option (Tm × Int × Bool) :=
  ckI ((t0.length : Int) - (1 : Int)) <|
  ckI (((t0.length : Int) - (1 : Int)) - t1) <|
  atI t0 (((t0.length : Int) - (1 : Int)) - t1) fun x2 =>
  ckI (t1 + (1 : Int)) <|
  (f33 n x2.a (t1 + (1 : Int)) (0 : Int)).bind fun x3 =>
  some (x3, x2.i, true)
def c39_1 (n : Nat) (t0 : List Ent) (t1 : Int) (t4_0 : Int) (t4_1 : Int) (t4_2 : Int) (t4_3 : Int) : Option (Tm × Int × Bool) :=
  o39_1 n t0 t1 t4_0 t4_1 t4_2 t4_3
def f39 (n : Nat) (a0 : List Ent) (a1 : Int) : Option (Tm × Int × Bool) := o39_0 n (c39_1 n) a0 a1
def an39 : An := (.n none [] 0 .z (.n (some 1) [(0, .one (.d .ent false)), (1, .one .c), (4, .p 0 [.c, .c, .c, .c, .k])] 1 .z .z))
def F39 : Fn := { f := 39, a := an39, vars := [.cell 4 24, .tmp 5, .tmp 6], ps := [.sl .ent, .sc .int], rs := [.st .tm, .sc .int, .sc .bool], own := false, fr := true, nt := 37, D := 3, loops := [] }
def cs39 (n : Nat) : List Cal := [⟨33, [.st .tm, .sc .int, .sc .int], [.st .tm], true, fun a => f33 n a.1 a.2.1 a.2.2.1⟩, ⟨41, [.sl .ent], [.sc .bool], true, fun a => f41 n a.1⟩]
def st39_1 (t0 : List Ent) (t1 : Int) (t4_0 : Int) (t4_1 : Int) (t4_2 : Int) (t4_3 : Int) : SS := ⟨[(0, .v (.one (.c (.sl .ent t0) false))), (1, .v (.one (.c (.int t1) true))), (4, .v (.one (.ptr 0 0)))], [(0, some (.box [.c (.int t4_0) true, .c (.int t4_1) true, .c (.int t4_2) true, .c (.int t4_3) true, .nils]))], 1⟩
theorem p39_0 (n : Nat) (lab : Nat → SS → Option (RT.den F39.rs)) (x : PTs.den F39.ps) : F39.body (bodyOf Try.f39) tabR tyR true (cs39 n) lab x = o39_0 n (fun t0 t1 t4_0 t4_1 t4_2 t4_3 => lab 1 (st39_1 t0 t1 t4_0 t4_1 t4_2 t4_3)) x.1 x.2.1 := by kernel_rfl
theorem p39_1 (n : Nat) (lab : Nat → SS → Option (RT.den F39.rs)) (t0 : List Ent) (t1 : Int) (t4_0 : Int) (t4_1 : Int) (t4_2 : Int) (t4_3 : Int) : F39.at (bodyOf Try.f39) tabR tyR true (cs39 n) lab 1 (st39_1 t0 t1 t4_0 t4_1 t4_2 t4_3) = o39_1 n t0 t1 t4_0 t4_1 t4_2 t4_3 := by kernel_rfl
theorem n39_1 (n : Nat) (rec : Nat → SS → Option (RT.den F39.rs)) (d : Nat) (t0 : List Ent) (t1 : Int) (t4_0 : Int) (t4_1 : Int) (t4_2 : Int) (t4_3 : Int) : F39.labD (bodyOf Try.f39) tabR tyR true (cs39 n) rec (d + 1) 1 (st39_1 t0 t1 t4_0 t4_1 t4_2 t4_3) = c39_1 n t0 t1 t4_0 t4_1 t4_2 t4_3 := by
  show F39.labD (bodyOf Try.f39) tabR tyR true (cs39 n) rec (d + 1) 1 _ = _
  rw [Fn.labD_succ, p39_1]
  rfl
theorem w39 (n : Nat) (x : PTs.den F39.ps) : F39.body (bodyOf Try.f39) tabR tyR true (cs39 n) (F39.labX (bodyOf Try.f39) tabR tyR true (cs39 n) (F39.labM (bodyOf Try.f39) tabR tyR true (cs39 n) 0) F39.D) x = o39_0 n (c39_1 n) x.1 x.2.1 := by
  have e1 : ∀ t0 t1 t4_0 t4_1 t4_2 t4_3, F39.labX (bodyOf Try.f39) tabR tyR true (cs39 n) (F39.labM (bodyOf Try.f39) tabR tyR true (cs39 n) 0) 3 1 (st39_1 t0 t1 t4_0 t4_1 t4_2 t4_3) = c39_1 n t0 t1 t4_0 t4_1 t4_2 t4_3 := fun t0 t1 t4_0 t4_1 t4_2 t4_3 => (Fn.labX_step _ _ _ _ _ _ _ _ _ _ (by kernel_rfl)).trans (n39_1 n (F39.labM (bodyOf Try.f39) tabR tyR true (cs39 n) 0) 2 t0 t1 t4_0 t4_1 t4_2 t4_3)
  show F39.body (bodyOf Try.f39) tabR tyR true (cs39 n) (F39.labX (bodyOf Try.f39) tabR tyR true (cs39 n) (F39.labM (bodyOf Try.f39) tabR tyR true (cs39 n) 0) 3) x = _
  rw [p39_0]
  simp only [e1]
  try rfl
theorem call39 : Callable Try.prog 39 := callable_of Try.func39 (by kernel_rfl) (by kernel_rfl)
theorem ok39 (n : Nat) : Cal.Ok Try.prog ⟨39, F39.ps, F39.rs, F39.fr, fun a => f39 n a.1 a.2.1⟩ :=
  cal_of_fn F39 (code := bodyOf Try.f39) Try.func39 (by kernel_rfl) (by kernel_rfl) call39 htabR (cs := cs39 n) (fun c hc => by
      simp only [cs39, List.mem_cons, List.not_mem_nil, or_false] at hc
      rcases hc with rfl | rfl
      · exact ok33 n
      · exact ok41 n) (fun _ => mixed) (by kernel_rfl) (by kernel_rfl) (by decide) (fun x => ⟨0, w39 n x⟩)
-- tranship/transhipref11.level
-- tranship/transhipref11.RightCtx
-- tranship/transhipref11.At
-- tranship/ctx.Erase
-- tranship/ctx.Plain
-- tranship/transhipkeep.TwinCtx
-- tranship/transhipkeep.Ctx
-- tranship/transhipref11.Erase
-- tranship/transhipref11.Plain
-- tranship/ctx.copied
def o101_0 (n : Nat) (k1 : (List Ent) → (List Ent) → Int → Int → Option ((List Ent))) (a0 : List Ent) (a1 : Int) : Option ((List Ent)) :=
  ckI ((a0.length : Int) + a1) <|
  ckB (decide (0 ≤ (0 : Int)) && (decide ((0 : Int) ≤ ((a0.length : Int) + a1)) && decide ((64 : Nat) * ((a0.length : Int) + a1) ≤ 281474976710656))) <|
  k1 (List.replicate (0 : Int).toNat (Ent.mk (Tm.mk (0 : Int) (0 : Int) (0 : Int) (0 : Int) ([] : List Tm)) (0 : Int))) a0 (a0.length : Int) (0 : Int)
def o101_1 (n : Nat) (k1 : (List Ent) → (List Ent) → Int → Int → Option ((List Ent))) (t5 : List Ent) (t13 : List Ent) (t14 : Int) (t15 : Int) : Option ((List Ent)) :=
  ifB (decide (t15 < t14)) (
    atI t13 t15 fun x1 =>
    (f102 n x1.a).bind fun x2 =>
    ckB (decide ((t5.length + [(Ent.mk (Tm.mk x2.kind x2.i x2.j x2.n x2.kids) x1.i)].length) * 64 ≤ 140737488355328) && decide (t5.length + [(Ent.mk (Tm.mk x2.kind x2.i x2.j x2.n x2.kids) x1.i)].length ≤ 9223372036854775807)) <|
    ckI (t15 + (1 : Int)) <|
    k1 (t5 ++ [(Ent.mk (Tm.mk x2.kind x2.i x2.j x2.n x2.kids) x1.i)]) t13 t14 (t15 + (1 : Int))) (
    some t5)
def l101_1 (n : Nat) : Nat → (List Ent) → (List Ent) → Int → Int → Option ((List Ent))
  | 0, _, _, _, _ => none
  | m + 1, t5, t13, t14, t15 => o101_1 n (l101_1 n m) t5 t13 t14 t15
def f101 (n : Nat) (a0 : List Ent) (a1 : Int) : Option ((List Ent)) := o101_0 n (l101_1 n n) a0 a1
def an101 : An := (.n none [] 0 .z (.n none [] 0 .z (.n none [] 0 (.n none [] 0 .z (.n none [] 0 (.n (some 1) [(5, .one (.r 0 45 .ent true)), (13, .one (.d .ent false)), (14, .one .c), (15, .one .c)] 1 .z .z) .z)) .z)))
def F101 : Fn := { f := 101, a := an101, vars := [.tmp 4], ps := [.sl .ent, .sc .int], rs := [.own 45 .ent], own := true, fr := true, nt := 30, D := 3, loops := [1] }
def cs101 (n : Nat) : List Cal := [⟨102, [.st .tm], [.st .tm], true, fun a => f102 n a.1⟩]
def st101_1 (t5 : List Ent) (t13 : List Ent) (t14 : Int) (t15 : Int) : SS := ⟨[(5, .v (.one (.arr 0))), (13, .v (.one (.c (.sl .ent t13) false))), (14, .v (.one (.c (.int t14) true))), (15, .v (.one (.c (.int t15) true)))], [(0, some (.row 45 .ent t5 true))], 1⟩
theorem p101_0 (n : Nat) (lab : Nat → SS → Option (RT.den F101.rs)) (x : PTs.den F101.ps) : F101.body (bodyOf Try.f101) tabR tyR true (cs101 n) lab x = o101_0 n (fun t5 t13 t14 t15 => lab 1 (st101_1 t5 t13 t14 t15)) x.1 x.2.1 := by kernel_rfl
theorem p101_1 (n : Nat) (lab : Nat → SS → Option (RT.den F101.rs)) (t5 : List Ent) (t13 : List Ent) (t14 : Int) (t15 : Int) : F101.at (bodyOf Try.f101) tabR tyR true (cs101 n) lab 1 (st101_1 t5 t13 t14 t15) = o101_1 n (fun t5 t13 t14 t15 => lab 1 (st101_1 t5 t13 t14 t15)) t5 t13 t14 t15 := by kernel_rfl
theorem m101_1 (n : Nat) : ∀ m : Nat, (∀ t5 t13 t14 t15, F101.labM (bodyOf Try.f101) tabR tyR true (cs101 n) m 1 (st101_1 t5 t13 t14 t15) = l101_1 n m t5 t13 t14 t15) := by
  intro m
  induction m with
  | zero => exact fun _ _ _ _ => rfl
  | succ m ih =>
    intro t5 t13 t14 t15
    have e1 : ∀ t5 t13 t14 t15, F101.labX (bodyOf Try.f101) tabR tyR true (cs101 n) (F101.labM (bodyOf Try.f101) tabR tyR true (cs101 n) m) 2 1 (st101_1 t5 t13 t14 t15) = (l101_1 n m) t5 t13 t14 t15 := fun t5 t13 t14 t15 => (Fn.labX_loop _ _ _ _ _ _ _ _ _ _ (by kernel_rfl)).trans (ih t5 t13 t14 t15)
    rw [Fn.labM_succ]
    show F101.labD (bodyOf Try.f101) tabR tyR true (cs101 n) (F101.labM (bodyOf Try.f101) tabR tyR true (cs101 n) m) (2 + 1) 1 _ = _
    rw [Fn.labD_succ, p101_1]
    simp only [e1]
    rfl
theorem w101 (n : Nat) (x : PTs.den F101.ps) : F101.body (bodyOf Try.f101) tabR tyR true (cs101 n) (F101.labX (bodyOf Try.f101) tabR tyR true (cs101 n) (F101.labM (bodyOf Try.f101) tabR tyR true (cs101 n) n) F101.D) x = o101_0 n (l101_1 n n) x.1 x.2.1 := by
  have e1 : ∀ t5 t13 t14 t15, F101.labX (bodyOf Try.f101) tabR tyR true (cs101 n) (F101.labM (bodyOf Try.f101) tabR tyR true (cs101 n) n) 3 1 (st101_1 t5 t13 t14 t15) = (l101_1 n n) t5 t13 t14 t15 := fun t5 t13 t14 t15 => (Fn.labX_loop _ _ _ _ _ _ _ _ _ _ (by kernel_rfl)).trans ((m101_1 n n) t5 t13 t14 t15)
  show F101.body (bodyOf Try.f101) tabR tyR true (cs101 n) (F101.labX (bodyOf Try.f101) tabR tyR true (cs101 n) (F101.labM (bodyOf Try.f101) tabR tyR true (cs101 n) n) 3) x = _
  rw [p101_0]
  simp only [e1]
  try rfl
theorem call101 : Callable Try.prog 101 := callable_of Try.func101 (by kernel_rfl) (by kernel_rfl)
theorem ok101 (n : Nat) : Cal.Ok Try.prog ⟨101, F101.ps, F101.rs, F101.fr, fun a => f101 n a.1 a.2.1⟩ :=
  cal_of_fn F101 (code := bodyOf Try.f101) Try.func101 (by kernel_rfl) (by kernel_rfl) call101 htabR (cs := cs101 n) (fun c hc => by
      simp only [cs101, List.mem_cons, List.not_mem_nil, or_false] at hc
      rcases hc with rfl
      · exact ok102 n) (fun _ => mixed) (by kernel_rfl) (by kernel_rfl) (by decide) (fun x => ⟨n, w101 n x⟩)
-- tranship/ctx.Add
def o51_0 (n : Nat) (a0 : List Ent) (a1 : Tm) (a2 : Int) : Option ((List Ent)) :=
  (f101 n a0 (1 : Int)).bind fun x1 =>
  (f102 n a1).bind fun x2 =>
  ckB (decide ((x1.length + [(Ent.mk (Tm.mk x2.kind x2.i x2.j x2.n x2.kids) a2)].length) * 64 ≤ 140737488355328) && decide (x1.length + [(Ent.mk (Tm.mk x2.kind x2.i x2.j x2.n x2.kids) a2)].length ≤ 9223372036854775807)) <|
  some (x1 ++ [(Ent.mk (Tm.mk x2.kind x2.i x2.j x2.n x2.kids) a2)])
def f51 (n : Nat) (a0 : List Ent) (a1 : Tm) (a2 : Int) : Option ((List Ent)) := o51_0 n a0 a1 a2
def an51 : An := .z
def F51 : Fn := { f := 51, a := an51, vars := [.tmp 6], ps := [.sl .ent, .st .tm, .sc .int], rs := [.sl .ent], own := false, fr := true, nt := 15, D := 2, loops := [] }
def cs51 (n : Nat) : List Cal := [⟨101, [.sl .ent, .sc .int], [.own 45 .ent], true, fun a => f101 n a.1 a.2.1⟩, ⟨102, [.st .tm], [.st .tm], true, fun a => f102 n a.1⟩]
theorem p51_0 (n : Nat) (lab : Nat → SS → Option (RT.den F51.rs)) (x : PTs.den F51.ps) : F51.body (bodyOf Try.f51) tabR tyR true (cs51 n) lab x = o51_0 n x.1 x.2.1 x.2.2.1 := by kernel_rfl
theorem w51 (n : Nat) (x : PTs.den F51.ps) : F51.body (bodyOf Try.f51) tabR tyR true (cs51 n) (F51.labX (bodyOf Try.f51) tabR tyR true (cs51 n) (F51.labM (bodyOf Try.f51) tabR tyR true (cs51 n) 0) F51.D) x = o51_0 n x.1 x.2.1 x.2.2.1 := by
  show F51.body (bodyOf Try.f51) tabR tyR true (cs51 n) (F51.labX (bodyOf Try.f51) tabR tyR true (cs51 n) (F51.labM (bodyOf Try.f51) tabR tyR true (cs51 n) 0) 2) x = _
  rw [p51_0]
theorem call51 : Callable Try.prog 51 := callable_of Try.func51 (by kernel_rfl) (by kernel_rfl)
theorem ok51 (n : Nat) : Cal.Ok Try.prog ⟨51, F51.ps, F51.rs, F51.fr, fun a => f51 n a.1 a.2.1 a.2.2.1⟩ :=
  cal_of_fn F51 (code := bodyOf Try.f51) Try.func51 (by kernel_rfl) (by kernel_rfl) call51 htabR (cs := cs51 n) (fun c hc => by
      simp only [cs51, List.mem_cons, List.not_mem_nil, or_false] at hc
      rcases hc with rfl | rfl
      · exact ok101 n
      · exact ok102 n) (fun _ => mixed) (by kernel_rfl) (by kernel_rfl) (by decide) (fun x => ⟨0, w51 n x⟩)
-- tranship/transhipkeep.GreatJudgs
-- tranship/ctx.Same
-- tranship/ctx.SameJudg
-- tranship/transhipkeep.Judg
-- tranship/transhipkeep.TwinJudgs
-- tranship/transhipref11.PureCtx
-- tranship/transhipref11.Add
-- tranship/transhipkeep.Zero
end Go.Proofs.Ytcaahmielncmpaa
