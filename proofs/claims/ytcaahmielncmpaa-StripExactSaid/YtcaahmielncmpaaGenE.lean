/-
  What lifting, stripping, putting and erasing compute, as plain functions.
-/
import Derived.Test.YtcaahmielncmpaaGenK
set_option linter.unusedSimpArgs false
set_option linter.unusedVariables false
namespace Go.Proofs.Ytcaahmielncmpaa
open Go Go.RowKit
set_option maxRecDepth 100000
-- tranship/transhipref04.erase
-- tranship/transhipref04.Erase
-- tranship/erase.erase
-- tranship/erase.Erase
-- tranship/erase.count
-- tranship/erase.Count
-- tranship/erase.Related
-- tranship/transhipref04.strip
def o86_0 (s86 : Tm → Option Tm) (n : Nat) (k1 : Tm → Int → Int → Int → Int → Int → (List Int) → Option Tm) (a0 : Tm) : Option Tm :=
  ifB (decide (a0.kind = (3 : Int))) (
    k1 a0 (0 : Int) (0 : Int) (0 : Int) (0 : Int) (13 : Int) [(0 : Int), (1 : Int)]) (
    ifB (decide (a0.kind = (4 : Int))) (
      k1 a0 (0 : Int) (0 : Int) (0 : Int) (0 : Int) (14 : Int) [(0 : Int), (2 : Int)]) (
      ifB (decide (a0.kind = (5 : Int))) (
        k1 a0 (0 : Int) (0 : Int) (0 : Int) (0 : Int) (15 : Int) [(2 : Int), (3 : Int)]) (
        ifB (decide (a0.kind = (6 : Int))) (
          k1 a0 (0 : Int) (0 : Int) (0 : Int) (0 : Int) (16 : Int) [(0 : Int), (1 : Int)]) (
          ifB (decide (a0.kind = (7 : Int))) (
            k1 a0 (0 : Int) (0 : Int) (0 : Int) (0 : Int) (17 : Int) [(0 : Int), (1 : Int), (2 : Int), (3 : Int)]) (
            ifB (decide (a0.kind = (8 : Int))) (
              k1 a0 (0 : Int) (0 : Int) (0 : Int) (0 : Int) (18 : Int) [(2 : Int)]) (
              ifB (decide (a0.kind = (9 : Int))) (
                k1 a0 (0 : Int) (0 : Int) (0 : Int) (0 : Int) (19 : Int) [(2 : Int)]) (
                ifB (decide (a0.kind = (10 : Int))) (
                  k1 a0 (0 : Int) (0 : Int) (0 : Int) (0 : Int) (20 : Int) [(0 : Int), (1 : Int), (2 : Int)]) (
                  ifB (decide (a0.kind = (11 : Int))) (
                    k1 a0 (0 : Int) (0 : Int) (0 : Int) (0 : Int) (21 : Int) [(0 : Int), (1 : Int)]) (
                    ifB (decide (a0.kind = (12 : Int))) (
                      atI a0.kids (0 : Int) fun x1 =>
                      (s86 x1).bind fun x2 =>
                      atI a0.kids (1 : Int) fun x3 =>
                      (s86 x3).bind fun x4 =>
                      atI a0.kids (2 : Int) fun x5 =>
                      atI a0.kids (3 : Int) fun x6 =>
                      (s86 x6).bind fun x7 =>
                      some (Tm.mk (23 : Int) a0.i (0 : Int) (5 : Int) [(Tm.mk x2.kind x2.i x2.j x2.n x2.kids), (Tm.mk x4.kind x4.i x4.j x4.n x4.kids), (Tm.mk x5.kind x5.i x5.j x5.n x5.kids), (Tm.mk x7.kind x7.i x7.j x7.n x7.kids)])) (
                      some a0))))))))))
def o86_1 (s86 : Tm → Option Tm) (n : Nat) (k2 : Tm → Int → Int → Int → Int → Int → (List Int) → (List Tm) → Int → Option Tm) (t1 : Tm) (t2_0 : Int) (t2_1 : Int) (t2_2 : Int) (t2_3 : Int) (t3 : Int) (t4 : List Int) : Option Tm :=
  k2 t1 t2_0 t2_1 t2_2 t2_3 t3 t4 ([] : List Tm) (0 : Int)
def o86_2 (s86 : Tm → Option Tm) (n : Nat) (k2 : Tm → Int → Int → Int → Int → Int → (List Int) → (List Tm) → Int → Option Tm) (t1 : Tm) (t2_0 : Int) (t2_1 : Int) (t2_2 : Int) (t2_3 : Int) (t3 : Int) (t4 : List Int) (t5 : List Tm) (t6 : Int) : Option Tm :=
  ifB (decide (t6 < (t4.length : Int))) (
    ckB (decide (0 ≤ t6) && decide (t6 < t4.length)) <|
    atN t4 t6.toNat fun x8 =>
    atI t1.kids x8 fun x9 =>
    (s86 x9).bind fun x10 =>
    ckB (decide ((t5.length + [(Tm.mk x10.kind x10.i x10.j x10.n x10.kids)].length) * 56 ≤ 140737488355328) && decide (t5.length + [(Tm.mk x10.kind x10.i x10.j x10.n x10.kids)].length ≤ 9223372036854775807)) <|
    ckI (t6 + (1 : Int)) <|
    k2 t1 t2_0 t2_1 t2_2 t2_3 t3 t4 (t5 ++ [(Tm.mk x10.kind x10.i x10.j x10.n x10.kids)]) (t6 + (1 : Int))) (
    some (Tm.mk t3 (0 : Int) (0 : Int) (0 : Int) t5))
def c86_1 (s86 : Tm → Option Tm) (n : Nat) (k2 : Tm → Int → Int → Int → Int → Int → (List Int) → (List Tm) → Int → Option Tm) (t1 : Tm) (t2_0 : Int) (t2_1 : Int) (t2_2 : Int) (t2_3 : Int) (t3 : Int) (t4 : List Int) : Option Tm :=
  o86_1 s86 n k2 t1 t2_0 t2_1 t2_2 t2_3 t3 t4
def l86_2 (s86 : Tm → Option Tm) (n : Nat) : Nat → Tm → Int → Int → Int → Int → Int → (List Int) → (List Tm) → Int → Option Tm
  | 0, _, _, _, _, _, _, _, _, _ => none
  | m + 1, t1, t2_0, t2_1, t2_2, t2_3, t3, t4, t5, t6 => o86_2 s86 n (l86_2 s86 n m) t1 t2_0 t2_1 t2_2 t2_3 t3 t4 t5 t6
def f86 : Nat → Tm → Option Tm
  | 0, _ => none
  | n + 1, a0 => o86_0 (f86 n) n (c86_1 (f86 n) n (l86_2 (f86 n) n n)) a0
def an86 : An := (.n none [] 0 .z (.n none [] 0 .z (.n (some 1) [(1, .ps 0 .tm false), (2, .p 1 [.c, .c, .c, .c, .k]), (3, .one .c), (4, .one (.r 2 3 .int true))] 3 .z (.n none [] 0 .z (.n none [] 0 (.n none [] 0 .z (.n none [] 0 (.n (some 2) [(1, .ps 0 .tm false), (2, .p 1 [.c, .c, .c, .c, .k]), (3, .one .c), (4, .one (.r 2 3 .int true)), (5, .one (.r 3 24 .tm false)), (6, .one .c)] 4 .z .z) .z)) .z)))))
def F86 : Fn := { f := 86, a := an86, vars := [.cell 2 24], ps := [.st .tm], rs := [.st .tm], own := false, fr := false, nt := 84, D := 4, loops := [2] }
def cs86 (s86 : Tm → Option Tm) (n : Nat) : List Cal := [⟨86, [.st .tm], [.st .tm], false, fun a => s86 a.1⟩]
def st86_1 (t1 : Tm) (t2_0 : Int) (t2_1 : Int) (t2_2 : Int) (t2_3 : Int) (t3 : Int) (t4 : List Int) : SS := ⟨[(1, .v (.one (.ptr 0 0))), (2, .v (.one (.ptr 1 0))), (3, .v (.one (.c (.int t3) true))), (4, .v (.one (.arr 2)))], [(0, some (.bst .tm t1 false)), (1, some (.box [.c (.int t2_0) true, .c (.int t2_1) true, .c (.int t2_2) true, .c (.int t2_3) true, .nils])), (2, some (.row 3 .int t4 true))], 3⟩
def st86_2 (t1 : Tm) (t2_0 : Int) (t2_1 : Int) (t2_2 : Int) (t2_3 : Int) (t3 : Int) (t4 : List Int) (t5 : List Tm) (t6 : Int) : SS := ⟨[(1, .v (.one (.ptr 0 0))), (2, .v (.one (.ptr 1 0))), (3, .v (.one (.c (.int t3) true))), (4, .v (.one (.arr 2))), (5, .v (.one (.arr 3))), (6, .v (.one (.c (.int t6) true)))], [(0, some (.bst .tm t1 false)), (1, some (.box [.c (.int t2_0) true, .c (.int t2_1) true, .c (.int t2_2) true, .c (.int t2_3) true, .nils])), (2, some (.row 3 .int t4 true)), (3, some (.row 24 .tm t5 false))], 4⟩
theorem p86_0 (s86 : Tm → Option Tm) (n : Nat) (lab : Nat → SS → Option (RT.den F86.rs)) (x : PTs.den F86.ps) : F86.body (bodyOf Try.f86) tabR tyR true (cs86 s86 n) lab x = o86_0 s86 n (fun t1 t2_0 t2_1 t2_2 t2_3 t3 t4 => lab 1 (st86_1 t1 t2_0 t2_1 t2_2 t2_3 t3 t4)) x.1 := by kernel_rfl
theorem p86_1 (s86 : Tm → Option Tm) (n : Nat) (lab : Nat → SS → Option (RT.den F86.rs)) (t1 : Tm) (t2_0 : Int) (t2_1 : Int) (t2_2 : Int) (t2_3 : Int) (t3 : Int) (t4 : List Int) : F86.at (bodyOf Try.f86) tabR tyR true (cs86 s86 n) lab 1 (st86_1 t1 t2_0 t2_1 t2_2 t2_3 t3 t4) = o86_1 s86 n (fun t1 t2_0 t2_1 t2_2 t2_3 t3 t4 t5 t6 => lab 2 (st86_2 t1 t2_0 t2_1 t2_2 t2_3 t3 t4 t5 t6)) t1 t2_0 t2_1 t2_2 t2_3 t3 t4 := by kernel_rfl
theorem p86_2 (s86 : Tm → Option Tm) (n : Nat) (lab : Nat → SS → Option (RT.den F86.rs)) (t1 : Tm) (t2_0 : Int) (t2_1 : Int) (t2_2 : Int) (t2_3 : Int) (t3 : Int) (t4 : List Int) (t5 : List Tm) (t6 : Int) : F86.at (bodyOf Try.f86) tabR tyR true (cs86 s86 n) lab 2 (st86_2 t1 t2_0 t2_1 t2_2 t2_3 t3 t4 t5 t6) = o86_2 s86 n (fun t1 t2_0 t2_1 t2_2 t2_3 t3 t4 t5 t6 => lab 2 (st86_2 t1 t2_0 t2_1 t2_2 t2_3 t3 t4 t5 t6)) t1 t2_0 t2_1 t2_2 t2_3 t3 t4 t5 t6 := by kernel_rfl
theorem n86_1 (s86 : Tm → Option Tm) (n : Nat) (rec : Nat → SS → Option (RT.den F86.rs)) (k2 : Tm → Int → Int → Int → Int → Int → (List Int) → (List Tm) → Int → Option Tm) (h2 : ∀ t1 t2_0 t2_1 t2_2 t2_3 t3 t4 t5 t6, rec 2 (st86_2 t1 t2_0 t2_1 t2_2 t2_3 t3 t4 t5 t6) = k2 t1 t2_0 t2_1 t2_2 t2_3 t3 t4 t5 t6) (d : Nat) (t1 : Tm) (t2_0 : Int) (t2_1 : Int) (t2_2 : Int) (t2_3 : Int) (t3 : Int) (t4 : List Int) : F86.labD (bodyOf Try.f86) tabR tyR true (cs86 s86 n) rec (d + 1) 1 (st86_1 t1 t2_0 t2_1 t2_2 t2_3 t3 t4) = c86_1 s86 n k2 t1 t2_0 t2_1 t2_2 t2_3 t3 t4 := by
  have e2 : ∀ t1 t2_0 t2_1 t2_2 t2_3 t3 t4 t5 t6, F86.labX (bodyOf Try.f86) tabR tyR true (cs86 s86 n) rec d 2 (st86_2 t1 t2_0 t2_1 t2_2 t2_3 t3 t4 t5 t6) = k2 t1 t2_0 t2_1 t2_2 t2_3 t3 t4 t5 t6 := fun t1 t2_0 t2_1 t2_2 t2_3 t3 t4 t5 t6 => (Fn.labX_loop _ _ _ _ _ _ _ _ _ _ (by kernel_rfl)).trans (h2 t1 t2_0 t2_1 t2_2 t2_3 t3 t4 t5 t6)
  show F86.labD (bodyOf Try.f86) tabR tyR true (cs86 s86 n) rec (d + 1) 1 _ = _
  rw [Fn.labD_succ, p86_1]
  simp only [e2]
  rfl
theorem m86_2 (s86 : Tm → Option Tm) (n : Nat) : ∀ m : Nat, (∀ t1 t2_0 t2_1 t2_2 t2_3 t3 t4 t5 t6, F86.labM (bodyOf Try.f86) tabR tyR true (cs86 s86 n) m 2 (st86_2 t1 t2_0 t2_1 t2_2 t2_3 t3 t4 t5 t6) = l86_2 s86 n m t1 t2_0 t2_1 t2_2 t2_3 t3 t4 t5 t6) := by
  intro m
  induction m with
  | zero => exact fun _ _ _ _ _ _ _ _ _ => rfl
  | succ m ih =>
    intro t1 t2_0 t2_1 t2_2 t2_3 t3 t4 t5 t6
    have e2 : ∀ t1 t2_0 t2_1 t2_2 t2_3 t3 t4 t5 t6, F86.labX (bodyOf Try.f86) tabR tyR true (cs86 s86 n) (F86.labM (bodyOf Try.f86) tabR tyR true (cs86 s86 n) m) 3 2 (st86_2 t1 t2_0 t2_1 t2_2 t2_3 t3 t4 t5 t6) = (l86_2 s86 n m) t1 t2_0 t2_1 t2_2 t2_3 t3 t4 t5 t6 := fun t1 t2_0 t2_1 t2_2 t2_3 t3 t4 t5 t6 => (Fn.labX_loop _ _ _ _ _ _ _ _ _ _ (by kernel_rfl)).trans (ih t1 t2_0 t2_1 t2_2 t2_3 t3 t4 t5 t6)
    rw [Fn.labM_succ]
    show F86.labD (bodyOf Try.f86) tabR tyR true (cs86 s86 n) (F86.labM (bodyOf Try.f86) tabR tyR true (cs86 s86 n) m) (3 + 1) 2 _ = _
    rw [Fn.labD_succ, p86_2]
    simp only [e2]
    rfl
theorem w86 (s86 : Tm → Option Tm) (n : Nat) (x : PTs.den F86.ps) : F86.body (bodyOf Try.f86) tabR tyR true (cs86 s86 n) (F86.labX (bodyOf Try.f86) tabR tyR true (cs86 s86 n) (F86.labM (bodyOf Try.f86) tabR tyR true (cs86 s86 n) n) F86.D) x = o86_0 s86 n (c86_1 s86 n (l86_2 s86 n n)) x.1 := by
  have e1 : ∀ t1 t2_0 t2_1 t2_2 t2_3 t3 t4, F86.labX (bodyOf Try.f86) tabR tyR true (cs86 s86 n) (F86.labM (bodyOf Try.f86) tabR tyR true (cs86 s86 n) n) 4 1 (st86_1 t1 t2_0 t2_1 t2_2 t2_3 t3 t4) = c86_1 s86 n (l86_2 s86 n n) t1 t2_0 t2_1 t2_2 t2_3 t3 t4 := fun t1 t2_0 t2_1 t2_2 t2_3 t3 t4 => (Fn.labX_step _ _ _ _ _ _ _ _ _ _ (by kernel_rfl)).trans (n86_1 s86 n (F86.labM (bodyOf Try.f86) tabR tyR true (cs86 s86 n) n) (l86_2 s86 n n) (m86_2 s86 n n) 3 t1 t2_0 t2_1 t2_2 t2_3 t3 t4)
  show F86.body (bodyOf Try.f86) tabR tyR true (cs86 s86 n) (F86.labX (bodyOf Try.f86) tabR tyR true (cs86 s86 n) (F86.labM (bodyOf Try.f86) tabR tyR true (cs86 s86 n) n) 4) x = _
  rw [p86_0]
  simp only [e1]
  try rfl
theorem call86 : Callable Try.prog 86 := callable_of Try.func86 (by kernel_rfl) (by kernel_rfl)
theorem okr86 : ∀ n : Nat, Cal.Ok Try.prog ⟨86, F86.ps, F86.rs, F86.fr, fun a => f86 n a.1⟩
  | 0 => ⟨by kernel_rfl, fun a r h => by cases h⟩
  | n + 1 => cal_of_fn F86 (code := bodyOf Try.f86) Try.func86 (by kernel_rfl) (by kernel_rfl) call86 htabR (cs := cs86 (f86 n) n) (fun c hc => by
      simp only [cs86, List.mem_cons, List.not_mem_nil, or_false] at hc
      rcases hc with rfl
      · exact (okr86 n)) (fun _ => mixed) (by kernel_rfl) (by kernel_rfl) (by decide) (fun x => ⟨n, w86 (f86 n) n x⟩)
theorem ok86 (n : Nat) : Cal.Ok Try.prog ⟨86, F86.ps, F86.rs, F86.fr, fun a => f86 n a.1⟩ := (okr86 n)
-- tranship/transhipref04.Strip
def o29_0 (n : Nat) (a0 : Tm) : Option Tm :=
  (f82 n a0).bind fun x1 =>
  ifB x1 (
    some a0) (
    (f25 n a0).bind fun x2 =>
    ifB x2 (
      (f86 n a0).bind fun x3 =>
      some x3) (
      some (Tm.mk (0 : Int) (0 : Int) (0 : Int) (0 : Int) ([] : List Tm))))
def f29 (n : Nat) (a0 : Tm) : Option Tm := o29_0 n a0
def an29 : An := .z
def F29 : Fn := { f := 29, a := an29, vars := [.cell 2 24], ps := [.st .tm], rs := [.st .tm], own := false, fr := false, nt := 13, D := 2, loops := [] }
def cs29 (n : Nat) : List Cal := [⟨25, [.st .tm], [.sc .bool], true, fun a => f25 n a.1⟩, ⟨82, [.st .tm], [.sc .bool], true, fun a => f82 n a.1⟩, ⟨86, [.st .tm], [.st .tm], false, fun a => f86 n a.1⟩]
theorem p29_0 (n : Nat) (lab : Nat → SS → Option (RT.den F29.rs)) (x : PTs.den F29.ps) : F29.body (bodyOf Try.f29) tabR tyR true (cs29 n) lab x = o29_0 n x.1 := by kernel_rfl
theorem w29 (n : Nat) (x : PTs.den F29.ps) : F29.body (bodyOf Try.f29) tabR tyR true (cs29 n) (F29.labX (bodyOf Try.f29) tabR tyR true (cs29 n) (F29.labM (bodyOf Try.f29) tabR tyR true (cs29 n) 0) F29.D) x = o29_0 n x.1 := by
  show F29.body (bodyOf Try.f29) tabR tyR true (cs29 n) (F29.labX (bodyOf Try.f29) tabR tyR true (cs29 n) (F29.labM (bodyOf Try.f29) tabR tyR true (cs29 n) 0) 2) x = _
  rw [p29_0]
theorem call29 : Callable Try.prog 29 := callable_of Try.func29 (by kernel_rfl) (by kernel_rfl)
theorem ok29 (n : Nat) : Cal.Ok Try.prog ⟨29, F29.ps, F29.rs, F29.fr, fun a => f29 n a.1⟩ :=
  cal_of_fn F29 (code := bodyOf Try.f29) Try.func29 (by kernel_rfl) (by kernel_rfl) call29 htabR (cs := cs29 n) (fun c hc => by
      simp only [cs29, List.mem_cons, List.not_mem_nil, or_false] at hc
      rcases hc with rfl | rfl | rfl
      · exact ok25 n
      · exact ok82 n
      · exact ok86 n) (fun _ => mixed) (by kernel_rfl) (by kernel_rfl) (by decide) (fun x => ⟨0, w29 n x⟩)
-- tranship/strip.strip
def o88_0 (s88 : Tm → Option Tm) (n : Nat) (k1 : Tm → Int → Int → Int → Int → Int → Int → Option Tm) (a0 : Tm) : Option Tm :=
  ifB (decide (a0.kind = (3 : Int))) (
    k1 a0 (0 : Int) (0 : Int) (0 : Int) (0 : Int) (13 : Int) (0 : Int)) (
    ifB (decide (a0.kind = (4 : Int))) (
      atI a0.kids (0 : Int) fun x1 =>
      (s88 x1).bind fun x2 =>
      atI a0.kids (2 : Int) fun x3 =>
      (s88 x3).bind fun x4 =>
      (f127 (14 : Int) (0 : Int) (0 : Int) (0 : Int) [(Tm.mk x2.kind x2.i x2.j x2.n x2.kids), (Tm.mk x4.kind x4.i x4.j x4.n x4.kids)]).bind fun x5 =>
      some x5) (
      ifB (decide (a0.kind = (5 : Int))) (
        k1 a0 (0 : Int) (0 : Int) (0 : Int) (0 : Int) (15 : Int) (2 : Int)) (
        ifB (decide (a0.kind = (6 : Int))) (
          k1 a0 (0 : Int) (0 : Int) (0 : Int) (0 : Int) (16 : Int) (0 : Int)) (
          ifB (decide (a0.kind = (7 : Int))) (
            k1 a0 (0 : Int) (0 : Int) (0 : Int) (0 : Int) (17 : Int) (0 : Int)) (
            ifB (decide (a0.kind = (8 : Int))) (
              k1 a0 (0 : Int) (0 : Int) (0 : Int) (0 : Int) (18 : Int) (2 : Int)) (
              ifB (decide (a0.kind = (9 : Int))) (
                k1 a0 (0 : Int) (0 : Int) (0 : Int) (0 : Int) (19 : Int) (2 : Int)) (
                ifB (decide (a0.kind = (10 : Int))) (
                  k1 a0 (0 : Int) (0 : Int) (0 : Int) (0 : Int) (20 : Int) (0 : Int)) (
                  ifB (decide (a0.kind = (11 : Int))) (
                    k1 a0 (0 : Int) (0 : Int) (0 : Int) (0 : Int) (21 : Int) (0 : Int)) (
                    ifB (decide (a0.kind = (12 : Int))) (
                      atI a0.kids (0 : Int) fun x6 =>
                      (s88 x6).bind fun x7 =>
                      atI a0.kids (1 : Int) fun x8 =>
                      (s88 x8).bind fun x9 =>
                      atI a0.kids (2 : Int) fun x10 =>
                      (f102 n x10).bind fun x11 =>
                      atI a0.kids (3 : Int) fun x12 =>
                      (s88 x12).bind fun x13 =>
                      (f127 (23 : Int) a0.i (0 : Int) (5 : Int) [(Tm.mk x7.kind x7.i x7.j x7.n x7.kids), (Tm.mk x9.kind x9.i x9.j x9.n x9.kids), (Tm.mk x11.kind x11.i x11.j x11.n x11.kids), (Tm.mk x13.kind x13.i x13.j x13.n x13.kids)]).bind fun x14 =>
                      some x14) (
                      (f102 n a0).bind fun x15 =>
                      some x15))))))))))
def o88_1 (s88 : Tm → Option Tm) (n : Nat) (k2 : Int → Int → Int → Int → Int → Int → Int → Int → (List Tm) → (List Tm) → Int → Int → Option Tm) (t1 : Tm) (t2_0 : Int) (t2_1 : Int) (t2_2 : Int) (t2_3 : Int) (t3 : Int) (t4 : Int) : Option Tm :=
  ckI ((t1.kids.length : Int) - t4) <|
  ckB (decide (0 ≤ (0 : Int)) && (decide ((0 : Int) ≤ ((t1.kids.length : Int) - t4)) && decide ((56 : Nat) * ((t1.kids.length : Int) - t4) ≤ 281474976710656))) <|
  ckB (decide (0 ≤ t4) && (decide (t4 ≤ (t1.kids.length : Int)) && decide ((t1.kids.length : Int) ≤ t1.kids.length))) <|
  k2 t2_0 t2_1 t2_2 t2_3 t3 (0 : Int) (0 : Int) (0 : Int) (List.replicate (0 : Int).toNat (Tm.mk (0 : Int) (0 : Int) (0 : Int) (0 : Int) ([] : List Tm))) ((t1.kids.take (t1.kids.length : Int).toNat).drop t4.toNat) (((t1.kids.take (t1.kids.length : Int).toNat).drop t4.toNat).length : Int) (0 : Int)
def o88_2 (s88 : Tm → Option Tm) (n : Nat) (k2 : Int → Int → Int → Int → Int → Int → Int → Int → (List Tm) → (List Tm) → Int → Int → Option Tm) (t2_0 : Int) (t2_1 : Int) (t2_2 : Int) (t2_3 : Int) (t5_0 : Int) (t5_1 : Int) (t5_2 : Int) (t5_3 : Int) (t5_4 : List Tm) (t79 : List Tm) (t80 : Int) (t81 : Int) : Option Tm :=
  ifB (decide (t81 < t80)) (
    atI t79 t81 fun x16 =>
    (s88 x16).bind fun x17 =>
    ckB (decide ((t5_4.length + [(Tm.mk x17.kind x17.i x17.j x17.n x17.kids)].length) * 56 ≤ 140737488355328) && decide (t5_4.length + [(Tm.mk x17.kind x17.i x17.j x17.n x17.kids)].length ≤ 9223372036854775807)) <|
    ckI (t81 + (1 : Int)) <|
    k2 t2_0 t2_1 t2_2 t2_3 t5_0 t5_1 t5_2 t5_3 (t5_4 ++ [(Tm.mk x17.kind x17.i x17.j x17.n x17.kids)]) t79 t80 (t81 + (1 : Int))) (
    some (Tm.mk t5_0 t5_1 t5_2 t5_3 t5_4))
def c88_1 (s88 : Tm → Option Tm) (n : Nat) (k2 : Int → Int → Int → Int → Int → Int → Int → Int → (List Tm) → (List Tm) → Int → Int → Option Tm) (t1 : Tm) (t2_0 : Int) (t2_1 : Int) (t2_2 : Int) (t2_3 : Int) (t3 : Int) (t4 : Int) : Option Tm :=
  o88_1 s88 n k2 t1 t2_0 t2_1 t2_2 t2_3 t3 t4
def l88_2 (s88 : Tm → Option Tm) (n : Nat) : Nat → Int → Int → Int → Int → Int → Int → Int → Int → (List Tm) → (List Tm) → Int → Int → Option Tm
  | 0, _, _, _, _, _, _, _, _, _, _, _, _ => none
  | m + 1, t2_0, t2_1, t2_2, t2_3, t5_0, t5_1, t5_2, t5_3, t5_4, t79, t80, t81 => o88_2 s88 n (l88_2 s88 n m) t2_0 t2_1 t2_2 t2_3 t5_0 t5_1 t5_2 t5_3 t5_4 t79 t80 t81
def f88 : Nat → Tm → Option Tm
  | 0, _ => none
  | n + 1, a0 => o88_0 (f88 n) n (c88_1 (f88 n) n (l88_2 (f88 n) n n)) a0
def an88 : An := (.n none [] 0 .z (.n none [] 0 .z (.n (some 1) [(1, .ps 0 .tm false), (2, .p 1 [.c, .c, .c, .c, .k]), (3, .one .c), (4, .one .c)] 2 .z (.n none [] 0 .z (.n none [] 0 (.n none [] 0 .z (.n none [] 0 (.n (some 2) [(2, .p 0 [.c, .c, .c, .c, .k]), (5, .p 1 [.c, .c, .c, .c, .r 2 24 .tm true]), (79, .one (.d .tm false)), (80, .one .c), (81, .one .c)] 3 .z .z) .z)) .z)))))
def F88 : Fn := { f := 88, a := an88, vars := [.cell 2 24], ps := [.st .tm], rs := [.st .tm], own := false, fr := true, nt := 94, D := 4, loops := [2] }
def cs88 (s88 : Tm → Option Tm) (n : Nat) : List Cal := [⟨88, [.st .tm], [.st .tm], true, fun a => s88 a.1⟩, ⟨102, [.st .tm], [.st .tm], true, fun a => f102 n a.1⟩, ⟨127, [.sc .int, .sc .int, .sc .int, .sc .int, .sl .tm], [.pst .tm], true, fun a => f127 a.1 a.2.1 a.2.2.1 a.2.2.2.1 a.2.2.2.2.1⟩]
def st88_1 (t1 : Tm) (t2_0 : Int) (t2_1 : Int) (t2_2 : Int) (t2_3 : Int) (t3 : Int) (t4 : Int) : SS := ⟨[(1, .v (.one (.ptr 0 0))), (2, .v (.one (.ptr 1 0))), (3, .v (.one (.c (.int t3) true))), (4, .v (.one (.c (.int t4) true)))], [(0, some (.bst .tm t1 false)), (1, some (.box [.c (.int t2_0) true, .c (.int t2_1) true, .c (.int t2_2) true, .c (.int t2_3) true, .nils]))], 2⟩
def st88_2 (t2_0 : Int) (t2_1 : Int) (t2_2 : Int) (t2_3 : Int) (t5_0 : Int) (t5_1 : Int) (t5_2 : Int) (t5_3 : Int) (t5_4 : List Tm) (t79 : List Tm) (t80 : Int) (t81 : Int) : SS := ⟨[(2, .v (.one (.ptr 0 0))), (5, .v (.one (.ptr 1 0))), (79, .v (.one (.c (.sl .tm t79) false))), (80, .v (.one (.c (.int t80) true))), (81, .v (.one (.c (.int t81) true)))], [(0, some (.box [.c (.int t2_0) true, .c (.int t2_1) true, .c (.int t2_2) true, .c (.int t2_3) true, .nils])), (1, some (.box [.c (.int t5_0) true, .c (.int t5_1) true, .c (.int t5_2) true, .c (.int t5_3) true, .arr 2])), (2, some (.row 24 .tm t5_4 true))], 3⟩
theorem p88_0 (s88 : Tm → Option Tm) (n : Nat) (lab : Nat → SS → Option (RT.den F88.rs)) (x : PTs.den F88.ps) : F88.body (bodyOf Try.f88) tabR tyR true (cs88 s88 n) lab x = o88_0 s88 n (fun t1 t2_0 t2_1 t2_2 t2_3 t3 t4 => lab 1 (st88_1 t1 t2_0 t2_1 t2_2 t2_3 t3 t4)) x.1 := by kernel_rfl
theorem p88_1 (s88 : Tm → Option Tm) (n : Nat) (lab : Nat → SS → Option (RT.den F88.rs)) (t1 : Tm) (t2_0 : Int) (t2_1 : Int) (t2_2 : Int) (t2_3 : Int) (t3 : Int) (t4 : Int) : F88.at (bodyOf Try.f88) tabR tyR true (cs88 s88 n) lab 1 (st88_1 t1 t2_0 t2_1 t2_2 t2_3 t3 t4) = o88_1 s88 n (fun t2_0 t2_1 t2_2 t2_3 t5_0 t5_1 t5_2 t5_3 t5_4 t79 t80 t81 => lab 2 (st88_2 t2_0 t2_1 t2_2 t2_3 t5_0 t5_1 t5_2 t5_3 t5_4 t79 t80 t81)) t1 t2_0 t2_1 t2_2 t2_3 t3 t4 := by kernel_rfl
theorem p88_2 (s88 : Tm → Option Tm) (n : Nat) (lab : Nat → SS → Option (RT.den F88.rs)) (t2_0 : Int) (t2_1 : Int) (t2_2 : Int) (t2_3 : Int) (t5_0 : Int) (t5_1 : Int) (t5_2 : Int) (t5_3 : Int) (t5_4 : List Tm) (t79 : List Tm) (t80 : Int) (t81 : Int) : F88.at (bodyOf Try.f88) tabR tyR true (cs88 s88 n) lab 2 (st88_2 t2_0 t2_1 t2_2 t2_3 t5_0 t5_1 t5_2 t5_3 t5_4 t79 t80 t81) = o88_2 s88 n (fun t2_0 t2_1 t2_2 t2_3 t5_0 t5_1 t5_2 t5_3 t5_4 t79 t80 t81 => lab 2 (st88_2 t2_0 t2_1 t2_2 t2_3 t5_0 t5_1 t5_2 t5_3 t5_4 t79 t80 t81)) t2_0 t2_1 t2_2 t2_3 t5_0 t5_1 t5_2 t5_3 t5_4 t79 t80 t81 := by kernel_rfl
theorem n88_1 (s88 : Tm → Option Tm) (n : Nat) (rec : Nat → SS → Option (RT.den F88.rs)) (k2 : Int → Int → Int → Int → Int → Int → Int → Int → (List Tm) → (List Tm) → Int → Int → Option Tm) (h2 : ∀ t2_0 t2_1 t2_2 t2_3 t5_0 t5_1 t5_2 t5_3 t5_4 t79 t80 t81, rec 2 (st88_2 t2_0 t2_1 t2_2 t2_3 t5_0 t5_1 t5_2 t5_3 t5_4 t79 t80 t81) = k2 t2_0 t2_1 t2_2 t2_3 t5_0 t5_1 t5_2 t5_3 t5_4 t79 t80 t81) (d : Nat) (t1 : Tm) (t2_0 : Int) (t2_1 : Int) (t2_2 : Int) (t2_3 : Int) (t3 : Int) (t4 : Int) : F88.labD (bodyOf Try.f88) tabR tyR true (cs88 s88 n) rec (d + 1) 1 (st88_1 t1 t2_0 t2_1 t2_2 t2_3 t3 t4) = c88_1 s88 n k2 t1 t2_0 t2_1 t2_2 t2_3 t3 t4 := by
  have e2 : ∀ t2_0 t2_1 t2_2 t2_3 t5_0 t5_1 t5_2 t5_3 t5_4 t79 t80 t81, F88.labX (bodyOf Try.f88) tabR tyR true (cs88 s88 n) rec d 2 (st88_2 t2_0 t2_1 t2_2 t2_3 t5_0 t5_1 t5_2 t5_3 t5_4 t79 t80 t81) = k2 t2_0 t2_1 t2_2 t2_3 t5_0 t5_1 t5_2 t5_3 t5_4 t79 t80 t81 := fun t2_0 t2_1 t2_2 t2_3 t5_0 t5_1 t5_2 t5_3 t5_4 t79 t80 t81 => (Fn.labX_loop _ _ _ _ _ _ _ _ _ _ (by kernel_rfl)).trans (h2 t2_0 t2_1 t2_2 t2_3 t5_0 t5_1 t5_2 t5_3 t5_4 t79 t80 t81)
  show F88.labD (bodyOf Try.f88) tabR tyR true (cs88 s88 n) rec (d + 1) 1 _ = _
  rw [Fn.labD_succ, p88_1]
  simp only [e2]
  rfl
theorem m88_2 (s88 : Tm → Option Tm) (n : Nat) : ∀ m : Nat, (∀ t2_0 t2_1 t2_2 t2_3 t5_0 t5_1 t5_2 t5_3 t5_4 t79 t80 t81, F88.labM (bodyOf Try.f88) tabR tyR true (cs88 s88 n) m 2 (st88_2 t2_0 t2_1 t2_2 t2_3 t5_0 t5_1 t5_2 t5_3 t5_4 t79 t80 t81) = l88_2 s88 n m t2_0 t2_1 t2_2 t2_3 t5_0 t5_1 t5_2 t5_3 t5_4 t79 t80 t81) := by
  intro m
  induction m with
  | zero => exact fun _ _ _ _ _ _ _ _ _ _ _ _ => rfl
  | succ m ih =>
    intro t2_0 t2_1 t2_2 t2_3 t5_0 t5_1 t5_2 t5_3 t5_4 t79 t80 t81
    have e2 : ∀ t2_0 t2_1 t2_2 t2_3 t5_0 t5_1 t5_2 t5_3 t5_4 t79 t80 t81, F88.labX (bodyOf Try.f88) tabR tyR true (cs88 s88 n) (F88.labM (bodyOf Try.f88) tabR tyR true (cs88 s88 n) m) 3 2 (st88_2 t2_0 t2_1 t2_2 t2_3 t5_0 t5_1 t5_2 t5_3 t5_4 t79 t80 t81) = (l88_2 s88 n m) t2_0 t2_1 t2_2 t2_3 t5_0 t5_1 t5_2 t5_3 t5_4 t79 t80 t81 := fun t2_0 t2_1 t2_2 t2_3 t5_0 t5_1 t5_2 t5_3 t5_4 t79 t80 t81 => (Fn.labX_loop _ _ _ _ _ _ _ _ _ _ (by kernel_rfl)).trans (ih t2_0 t2_1 t2_2 t2_3 t5_0 t5_1 t5_2 t5_3 t5_4 t79 t80 t81)
    rw [Fn.labM_succ]
    show F88.labD (bodyOf Try.f88) tabR tyR true (cs88 s88 n) (F88.labM (bodyOf Try.f88) tabR tyR true (cs88 s88 n) m) (3 + 1) 2 _ = _
    rw [Fn.labD_succ, p88_2]
    simp only [e2]
    rfl
theorem w88 (s88 : Tm → Option Tm) (n : Nat) (x : PTs.den F88.ps) : F88.body (bodyOf Try.f88) tabR tyR true (cs88 s88 n) (F88.labX (bodyOf Try.f88) tabR tyR true (cs88 s88 n) (F88.labM (bodyOf Try.f88) tabR tyR true (cs88 s88 n) n) F88.D) x = o88_0 s88 n (c88_1 s88 n (l88_2 s88 n n)) x.1 := by
  have e1 : ∀ t1 t2_0 t2_1 t2_2 t2_3 t3 t4, F88.labX (bodyOf Try.f88) tabR tyR true (cs88 s88 n) (F88.labM (bodyOf Try.f88) tabR tyR true (cs88 s88 n) n) 4 1 (st88_1 t1 t2_0 t2_1 t2_2 t2_3 t3 t4) = c88_1 s88 n (l88_2 s88 n n) t1 t2_0 t2_1 t2_2 t2_3 t3 t4 := fun t1 t2_0 t2_1 t2_2 t2_3 t3 t4 => (Fn.labX_step _ _ _ _ _ _ _ _ _ _ (by kernel_rfl)).trans (n88_1 s88 n (F88.labM (bodyOf Try.f88) tabR tyR true (cs88 s88 n) n) (l88_2 s88 n n) (m88_2 s88 n n) 3 t1 t2_0 t2_1 t2_2 t2_3 t3 t4)
  show F88.body (bodyOf Try.f88) tabR tyR true (cs88 s88 n) (F88.labX (bodyOf Try.f88) tabR tyR true (cs88 s88 n) (F88.labM (bodyOf Try.f88) tabR tyR true (cs88 s88 n) n) 4) x = _
  rw [p88_0]
  simp only [e1]
  try rfl
theorem call88 : Callable Try.prog 88 := callable_of Try.func88 (by kernel_rfl) (by kernel_rfl)
theorem okr88 : ∀ n : Nat, Cal.Ok Try.prog ⟨88, F88.ps, F88.rs, F88.fr, fun a => f88 n a.1⟩
  | 0 => ⟨by kernel_rfl, fun a r h => by cases h⟩
  | n + 1 => cal_of_fn F88 (code := bodyOf Try.f88) Try.func88 (by kernel_rfl) (by kernel_rfl) call88 htabR (cs := cs88 (f88 n) n) (fun c hc => by
      simp only [cs88, List.mem_cons, List.not_mem_nil, or_false] at hc
      rcases hc with rfl | rfl | rfl
      · exact (okr88 n)
      · exact ok102 n
      · exact ok127p) (fun _ => mixed) (by kernel_rfl) (by kernel_rfl) (by decide) (fun x => ⟨n, w88 (f88 n) n x⟩)
theorem ok88 (n : Nat) : Cal.Ok Try.prog ⟨88, F88.ps, F88.rs, F88.fr, fun a => f88 n a.1⟩ := (okr88 n)
-- tranship/strip.Strip
def o30_0 (n : Nat) (a0 : Tm) : Option Tm :=
  (f87 n a0).bind fun x1 =>
  ifB (!x1) (
    some (Tm.mk (0 : Int) (0 : Int) (0 : Int) (0 : Int) ([] : List Tm))) (
    (f88 n a0).bind fun x2 =>
    some x2)
def f30 (n : Nat) (a0 : Tm) : Option Tm := o30_0 n a0
def an30 : An := .z
def F30 : Fn := { f := 30, a := an30, vars := [.cell 2 24], ps := [.st .tm], rs := [.st .tm], own := false, fr := true, nt := 9, D := 2, loops := [] }
def cs30 (n : Nat) : List Cal := [⟨87, [.st .tm], [.sc .bool], true, fun a => f87 n a.1⟩, ⟨88, [.st .tm], [.st .tm], true, fun a => f88 n a.1⟩]
theorem p30_0 (n : Nat) (lab : Nat → SS → Option (RT.den F30.rs)) (x : PTs.den F30.ps) : F30.body (bodyOf Try.f30) tabR tyR true (cs30 n) lab x = o30_0 n x.1 := by kernel_rfl
theorem w30 (n : Nat) (x : PTs.den F30.ps) : F30.body (bodyOf Try.f30) tabR tyR true (cs30 n) (F30.labX (bodyOf Try.f30) tabR tyR true (cs30 n) (F30.labM (bodyOf Try.f30) tabR tyR true (cs30 n) 0) F30.D) x = o30_0 n x.1 := by
  show F30.body (bodyOf Try.f30) tabR tyR true (cs30 n) (F30.labX (bodyOf Try.f30) tabR tyR true (cs30 n) (F30.labM (bodyOf Try.f30) tabR tyR true (cs30 n) 0) 2) x = _
  rw [p30_0]
theorem call30 : Callable Try.prog 30 := callable_of Try.func30 (by kernel_rfl) (by kernel_rfl)
theorem ok30 (n : Nat) : Cal.Ok Try.prog ⟨30, F30.ps, F30.rs, F30.fr, fun a => f30 n a.1⟩ :=
  cal_of_fn F30 (code := bodyOf Try.f30) Try.func30 (by kernel_rfl) (by kernel_rfl) call30 htabR (cs := cs30 n) (fun c hc => by
      simp only [cs30, List.mem_cons, List.not_mem_nil, or_false] at hc
      rcases hc with rfl | rfl
      · exact ok87 n
      · exact ok88 n) (fun _ => mixed) (by kernel_rfl) (by kernel_rfl) (by decide) (fun x => ⟨0, w30 n x⟩)
-- tranship/transhipref04.lift
-- tranship/transhipref04.Lift
-- tranship/lift.Lift
-- tranship/lift.rename
-- tranship/lift.Rename
-- tranship/transhipref04.may
-- tranship/transhipref04.raised
-- tranship/transhipref04.plainly
-- tranship/transhipref04.put
-- tranship/transhipref04.Put
-- tranship/subst.open
-- (*tranship/subst.putting).at
-- (*tranship/subst.putting).walk
-- tranship/subst.put
-- tranship/subst.Put
end Go.Proofs.Ytcaahmielncmpaa
