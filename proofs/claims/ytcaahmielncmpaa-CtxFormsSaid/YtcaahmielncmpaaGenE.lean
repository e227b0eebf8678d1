/-
  What lifting, stripping, putting and erasing compute, as plain functions.
-/
import Derived.Test.YtcaahmielncmpaaGenK
set_option linter.unusedSimpArgs false
set_option linter.unusedVariables false
namespace Go.Proofs.Ytcaahmielncmpaa
open Go Go.RowKit
set_option maxRecDepth 100000
-- tranship/transhipref04.erase
def o77_0 (s77 : Tm → Option Tm) (n : Nat) (k1 : Tm → Int → Int → Int → Int → Int → Int → Int → Int → (List Tm) → Int → Option Tm) (a0 : Tm) : Option Tm :=
  ifB (decide (a0.kind = (12 : Int))) (
    atI a0.kids (3 : Int) fun x1 =>
    (s77 x1).bind fun x2 =>
    some x2) (
    k1 a0 (0 : Int) (0 : Int) (0 : Int) (0 : Int) a0.kind a0.i a0.j a0.n ([] : List Tm) (0 : Int))
def o77_1 (s77 : Tm → Option Tm) (n : Nat) (k1 : Tm → Int → Int → Int → Int → Int → Int → Int → Int → (List Tm) → Int → Option Tm) (t1 : Tm) (t2_0 : Int) (t2_1 : Int) (t2_2 : Int) (t2_3 : Int) (t3_0 : Int) (t3_1 : Int) (t3_2 : Int) (t3_3 : Int) (t4 : List Tm) (t5 : Int) : Option Tm :=
  ifB (decide (t5 < (t1.kids.length : Int))) (
    atI t1.kids t5 fun x3 =>
    (s77 x3).bind fun x4 =>
    ckB (decide ((t4.length + [(Tm.mk x4.kind x4.i x4.j x4.n x4.kids)].length) * 56 ≤ 140737488355328) && decide (t4.length + [(Tm.mk x4.kind x4.i x4.j x4.n x4.kids)].length ≤ 9223372036854775807)) <|
    ckI (t5 + (1 : Int)) <|
    k1 t1 t2_0 t2_1 t2_2 t2_3 t3_0 t3_1 t3_2 t3_3 (t4 ++ [(Tm.mk x4.kind x4.i x4.j x4.n x4.kids)]) (t5 + (1 : Int))) (
    some (Tm.mk t3_0 t3_1 t3_2 t3_3 t4))
def l77_1 (s77 : Tm → Option Tm) (n : Nat) : Nat → Tm → Int → Int → Int → Int → Int → Int → Int → Int → (List Tm) → Int → Option Tm
  | 0, _, _, _, _, _, _, _, _, _, _, _ => none
  | m + 1, t1, t2_0, t2_1, t2_2, t2_3, t3_0, t3_1, t3_2, t3_3, t4, t5 => o77_1 s77 n (l77_1 s77 n m) t1 t2_0 t2_1 t2_2 t2_3 t3_0 t3_1 t3_2 t3_3 t4 t5
def f77 : Nat → Tm → Option Tm
  | 0, _ => none
  | n + 1, a0 => o77_0 (f77 n) n (l77_1 (f77 n) n n) a0
def an77 : An := (.n none [] 0 .z (.n none [] 0 .z (.n none [] 0 .z (.n none [] 0 .z (.n none [] 0 (.n none [] 0 .z (.n none [] 0 (.n (some 1) [(1, .ps 0 .tm false), (2, .p 1 [.c, .c, .c, .c, .k]), (3, .p 2 [.c, .c, .c, .c, .k]), (4, .one (.r 3 24 .tm true)), (5, .one .c)] 4 .z .z) .z)) .z)))))
def F77 : Fn := { f := 77, a := an77, vars := [.cell 2 24], ps := [.st .tm], rs := [.st .tm], own := false, fr := true, nt := 42, D := 3, loops := [1] }
def cs77 (s77 : Tm → Option Tm) (n : Nat) : List Cal := [⟨77, [.st .tm], [.st .tm], true, fun a => s77 a.1⟩]
def st77_1 (t1 : Tm) (t2_0 : Int) (t2_1 : Int) (t2_2 : Int) (t2_3 : Int) (t3_0 : Int) (t3_1 : Int) (t3_2 : Int) (t3_3 : Int) (t4 : List Tm) (t5 : Int) : SS := ⟨[(1, .v (.one (.ptr 0 0))), (2, .v (.one (.ptr 1 0))), (3, .v (.one (.ptr 2 0))), (4, .v (.one (.arr 3))), (5, .v (.one (.c (.int t5) true)))], [(0, some (.bst .tm t1 false)), (1, some (.box [.c (.int t2_0) true, .c (.int t2_1) true, .c (.int t2_2) true, .c (.int t2_3) true, .nils])), (2, some (.box [.c (.int t3_0) true, .c (.int t3_1) true, .c (.int t3_2) true, .c (.int t3_3) true, .nils])), (3, some (.row 24 .tm t4 true))], 4⟩
theorem p77_0 (s77 : Tm → Option Tm) (n : Nat) (lab : Nat → SS → Option (RT.den F77.rs)) (x : PTs.den F77.ps) : F77.body (bodyOf Try.f77) tabR tyR true (cs77 s77 n) lab x = o77_0 s77 n (fun t1 t2_0 t2_1 t2_2 t2_3 t3_0 t3_1 t3_2 t3_3 t4 t5 => lab 1 (st77_1 t1 t2_0 t2_1 t2_2 t2_3 t3_0 t3_1 t3_2 t3_3 t4 t5)) x.1 := by kernel_rfl
theorem p77_1 (s77 : Tm → Option Tm) (n : Nat) (lab : Nat → SS → Option (RT.den F77.rs)) (t1 : Tm) (t2_0 : Int) (t2_1 : Int) (t2_2 : Int) (t2_3 : Int) (t3_0 : Int) (t3_1 : Int) (t3_2 : Int) (t3_3 : Int) (t4 : List Tm) (t5 : Int) : F77.at (bodyOf Try.f77) tabR tyR true (cs77 s77 n) lab 1 (st77_1 t1 t2_0 t2_1 t2_2 t2_3 t3_0 t3_1 t3_2 t3_3 t4 t5) = o77_1 s77 n (fun t1 t2_0 t2_1 t2_2 t2_3 t3_0 t3_1 t3_2 t3_3 t4 t5 => lab 1 (st77_1 t1 t2_0 t2_1 t2_2 t2_3 t3_0 t3_1 t3_2 t3_3 t4 t5)) t1 t2_0 t2_1 t2_2 t2_3 t3_0 t3_1 t3_2 t3_3 t4 t5 := by kernel_rfl
theorem m77_1 (s77 : Tm → Option Tm) (n : Nat) : ∀ m : Nat, (∀ t1 t2_0 t2_1 t2_2 t2_3 t3_0 t3_1 t3_2 t3_3 t4 t5, F77.labM (bodyOf Try.f77) tabR tyR true (cs77 s77 n) m 1 (st77_1 t1 t2_0 t2_1 t2_2 t2_3 t3_0 t3_1 t3_2 t3_3 t4 t5) = l77_1 s77 n m t1 t2_0 t2_1 t2_2 t2_3 t3_0 t3_1 t3_2 t3_3 t4 t5) := by
  intro m
  induction m with
  | zero => exact fun _ _ _ _ _ _ _ _ _ _ _ => rfl
  | succ m ih =>
    intro t1 t2_0 t2_1 t2_2 t2_3 t3_0 t3_1 t3_2 t3_3 t4 t5
    have e1 : ∀ t1 t2_0 t2_1 t2_2 t2_3 t3_0 t3_1 t3_2 t3_3 t4 t5, F77.labX (bodyOf Try.f77) tabR tyR true (cs77 s77 n) (F77.labM (bodyOf Try.f77) tabR tyR true (cs77 s77 n) m) 2 1 (st77_1 t1 t2_0 t2_1 t2_2 t2_3 t3_0 t3_1 t3_2 t3_3 t4 t5) = (l77_1 s77 n m) t1 t2_0 t2_1 t2_2 t2_3 t3_0 t3_1 t3_2 t3_3 t4 t5 := fun t1 t2_0 t2_1 t2_2 t2_3 t3_0 t3_1 t3_2 t3_3 t4 t5 => (Fn.labX_loop _ _ _ _ _ _ _ _ _ _ (by kernel_rfl)).trans (ih t1 t2_0 t2_1 t2_2 t2_3 t3_0 t3_1 t3_2 t3_3 t4 t5)
    rw [Fn.labM_succ]
    show F77.labD (bodyOf Try.f77) tabR tyR true (cs77 s77 n) (F77.labM (bodyOf Try.f77) tabR tyR true (cs77 s77 n) m) (2 + 1) 1 _ = _
    rw [Fn.labD_succ, p77_1]
    simp only [e1]
    rfl
theorem w77 (s77 : Tm → Option Tm) (n : Nat) (x : PTs.den F77.ps) : F77.body (bodyOf Try.f77) tabR tyR true (cs77 s77 n) (F77.labX (bodyOf Try.f77) tabR tyR true (cs77 s77 n) (F77.labM (bodyOf Try.f77) tabR tyR true (cs77 s77 n) n) F77.D) x = o77_0 s77 n (l77_1 s77 n n) x.1 := by
  have e1 : ∀ t1 t2_0 t2_1 t2_2 t2_3 t3_0 t3_1 t3_2 t3_3 t4 t5, F77.labX (bodyOf Try.f77) tabR tyR true (cs77 s77 n) (F77.labM (bodyOf Try.f77) tabR tyR true (cs77 s77 n) n) 3 1 (st77_1 t1 t2_0 t2_1 t2_2 t2_3 t3_0 t3_1 t3_2 t3_3 t4 t5) = (l77_1 s77 n n) t1 t2_0 t2_1 t2_2 t2_3 t3_0 t3_1 t3_2 t3_3 t4 t5 := fun t1 t2_0 t2_1 t2_2 t2_3 t3_0 t3_1 t3_2 t3_3 t4 t5 => (Fn.labX_loop _ _ _ _ _ _ _ _ _ _ (by kernel_rfl)).trans ((m77_1 s77 n n) t1 t2_0 t2_1 t2_2 t2_3 t3_0 t3_1 t3_2 t3_3 t4 t5)
  show F77.body (bodyOf Try.f77) tabR tyR true (cs77 s77 n) (F77.labX (bodyOf Try.f77) tabR tyR true (cs77 s77 n) (F77.labM (bodyOf Try.f77) tabR tyR true (cs77 s77 n) n) 3) x = _
  rw [p77_0]
  simp only [e1]
  try rfl
theorem call77 : Callable Try.prog 77 := callable_of Try.func77 (by kernel_rfl) (by kernel_rfl)
theorem okr77 : ∀ n : Nat, Cal.Ok Try.prog ⟨77, F77.ps, F77.rs, F77.fr, fun a => f77 n a.1⟩
  | 0 => ⟨by kernel_rfl, fun a r h => by cases h⟩
  | n + 1 => cal_of_fn F77 (code := bodyOf Try.f77) Try.func77 (by kernel_rfl) (by kernel_rfl) call77 htabR (cs := cs77 (f77 n) n) (fun c hc => by
      simp only [cs77, List.mem_cons, List.not_mem_nil, or_false] at hc
      rcases hc with rfl
      · exact (okr77 n)) (fun _ => mixed) (by kernel_rfl) (by kernel_rfl) (by decide) (fun x => ⟨n, w77 (f77 n) n x⟩)
theorem ok77 (n : Nat) : Cal.Ok Try.prog ⟨77, F77.ps, F77.rs, F77.fr, fun a => f77 n a.1⟩ := (okr77 n)
-- tranship/transhipref04.Erase
def o20_0 (n : Nat) (a0 : Tm) : Option Tm :=
  (f25 n a0).bind fun x1 =>
  ifB (!x1) (
    some (Tm.mk (0 : Int) (0 : Int) (0 : Int) (0 : Int) ([] : List Tm))) (
    (f77 n a0).bind fun x2 =>
    some x2)
def f20 (n : Nat) (a0 : Tm) : Option Tm := o20_0 n a0
def an20 : An := .z
def F20 : Fn := { f := 20, a := an20, vars := [.cell 2 24], ps := [.st .tm], rs := [.st .tm], own := false, fr := true, nt := 9, D := 2, loops := [] }
def cs20 (n : Nat) : List Cal := [⟨25, [.st .tm], [.sc .bool], true, fun a => f25 n a.1⟩, ⟨77, [.st .tm], [.st .tm], true, fun a => f77 n a.1⟩]
theorem p20_0 (n : Nat) (lab : Nat → SS → Option (RT.den F20.rs)) (x : PTs.den F20.ps) : F20.body (bodyOf Try.f20) tabR tyR true (cs20 n) lab x = o20_0 n x.1 := by kernel_rfl
theorem w20 (n : Nat) (x : PTs.den F20.ps) : F20.body (bodyOf Try.f20) tabR tyR true (cs20 n) (F20.labX (bodyOf Try.f20) tabR tyR true (cs20 n) (F20.labM (bodyOf Try.f20) tabR tyR true (cs20 n) 0) F20.D) x = o20_0 n x.1 := by
  show F20.body (bodyOf Try.f20) tabR tyR true (cs20 n) (F20.labX (bodyOf Try.f20) tabR tyR true (cs20 n) (F20.labM (bodyOf Try.f20) tabR tyR true (cs20 n) 0) 2) x = _
  rw [p20_0]
theorem call20 : Callable Try.prog 20 := callable_of Try.func20 (by kernel_rfl) (by kernel_rfl)
theorem ok20 (n : Nat) : Cal.Ok Try.prog ⟨20, F20.ps, F20.rs, F20.fr, fun a => f20 n a.1⟩ :=
  cal_of_fn F20 (code := bodyOf Try.f20) Try.func20 (by kernel_rfl) (by kernel_rfl) call20 htabR (cs := cs20 n) (fun c hc => by
      simp only [cs20, List.mem_cons, List.not_mem_nil, or_false] at hc
      rcases hc with rfl | rfl
      · exact ok25 n
      · exact ok77 n) (fun _ => mixed) (by kernel_rfl) (by kernel_rfl) (by decide) (fun x => ⟨0, w20 n x⟩)
-- tranship/erase.erase
def o80_0 (s80 : Tm → Option Tm) (n : Nat) (k1 : Tm → Int → Int → Int → Int → Option Tm) (a0 : Tm) : Option Tm :=
  k1 a0 (0 : Int) (0 : Int) (0 : Int) (0 : Int)
def o80_1 (s80 : Tm → Option Tm) (n : Nat) (k1 : Tm → Int → Int → Int → Int → Option Tm) (k2 : Tm → Int → Int → Int → Int → (List Tm) → (List Tm) → Int → Int → Option Tm) (t1 : Tm) (t2_0 : Int) (t2_1 : Int) (t2_2 : Int) (t2_3 : Int) : Option Tm :=
  ifB (decide (t1.kind = (12 : Int))) (
    atI t1.kids (3 : Int) fun x1 =>
    k1 x1 t2_0 t2_1 t2_2 t2_3) (
    ifB (decide ((t1.kids.length : Int) = (0 : Int))) (
      some (Tm.mk t1.kind t1.i t1.j t1.n ([] : List Tm))) (
      ckB (decide (0 ≤ (t1.kids.length : Int)) && (decide ((t1.kids.length : Int) ≤ (t1.kids.length : Int)) && decide ((56 : Nat) * (t1.kids.length : Int) ≤ 281474976710656))) <|
      k2 t1 t2_0 t2_1 t2_2 t2_3 (List.replicate (t1.kids.length : Int).toNat (Tm.mk (0 : Int) (0 : Int) (0 : Int) (0 : Int) ([] : List Tm))) t1.kids (t1.kids.length : Int) (0 : Int)))
def o80_2 (s80 : Tm → Option Tm) (n : Nat) (k2 : Tm → Int → Int → Int → Int → (List Tm) → (List Tm) → Int → Int → Option Tm) (t1 : Tm) (t2_0 : Int) (t2_1 : Int) (t2_2 : Int) (t2_3 : Int) (t3 : List Tm) (t24 : List Tm) (t25 : Int) (t26 : Int) : Option Tm :=
  ifB (decide (t26 < t25)) (
    atI t24 t26 fun x2 =>
    (s80 x2).bind fun x3 =>
    ckB (decide (0 ≤ t26) && decide (t26 < t3.length)) <|
    ckB (decide (t26.toNat < t3.length)) <|
    ckI (t26 + (1 : Int)) <|
    k2 t1 t2_0 t2_1 t2_2 t2_3 (t3.set t26.toNat (Tm.mk x3.kind x3.i x3.j x3.n x3.kids)) t24 t25 (t26 + (1 : Int))) (
    some (Tm.mk t1.kind t1.i t1.j t1.n t3))
def l80_2 (s80 : Tm → Option Tm) (n : Nat) : Nat → Tm → Int → Int → Int → Int → (List Tm) → (List Tm) → Int → Int → Option Tm
  | 0, _, _, _, _, _, _, _, _, _ => none
  | m + 1, t1, t2_0, t2_1, t2_2, t2_3, t3, t24, t25, t26 => o80_2 s80 n (l80_2 s80 n m) t1 t2_0 t2_1 t2_2 t2_3 t3 t24 t25 t26
def l80_1 (s80 : Tm → Option Tm) (n : Nat) : Nat → Tm → Int → Int → Int → Int → Option Tm
  | 0, _, _, _, _, _ => none
  | m + 1, t1, t2_0, t2_1, t2_2, t2_3 => o80_1 s80 n (l80_1 s80 n m) (l80_2 s80 n m) t1 t2_0 t2_1 t2_2 t2_3
def f80 : Nat → Tm → Option Tm
  | 0, _ => none
  | n + 1, a0 => o80_0 (f80 n) n (l80_1 (f80 n) n n) a0
def an80 : An := (.n none [] 0 .z (.n none [] 0 (.n none [] 0 (.n (some 1) [(1, .ps 0 .tm false), (2, .p 1 [.c, .c, .c, .c, .k])] 2 .z .z) .z) (.n none [] 0 .z (.n none [] 0 .z (.n none [] 0 (.n none [] 0 .z (.n none [] 0 (.n (some 2) [(1, .ps 0 .tm false), (2, .p 1 [.c, .c, .c, .c, .k]), (3, .one (.r 2 24 .tm true)), (24, .one (.d .tm false)), (25, .one .c), (26, .one .c)] 3 .z .z) .z)) .z)))))
def F80 : Fn := { f := 80, a := an80, vars := [.cell 2 24], ps := [.st .tm], rs := [.st .tm], own := false, fr := true, nt := 40, D := 4, loops := [1, 2] }
def cs80 (s80 : Tm → Option Tm) (n : Nat) : List Cal := [⟨80, [.st .tm], [.st .tm], true, fun a => s80 a.1⟩]
def st80_1 (t1 : Tm) (t2_0 : Int) (t2_1 : Int) (t2_2 : Int) (t2_3 : Int) : SS := ⟨[(1, .v (.one (.ptr 0 0))), (2, .v (.one (.ptr 1 0)))], [(0, some (.bst .tm t1 false)), (1, some (.box [.c (.int t2_0) true, .c (.int t2_1) true, .c (.int t2_2) true, .c (.int t2_3) true, .nils]))], 2⟩
def st80_2 (t1 : Tm) (t2_0 : Int) (t2_1 : Int) (t2_2 : Int) (t2_3 : Int) (t3 : List Tm) (t24 : List Tm) (t25 : Int) (t26 : Int) : SS := ⟨[(1, .v (.one (.ptr 0 0))), (2, .v (.one (.ptr 1 0))), (3, .v (.one (.arr 2))), (24, .v (.one (.c (.sl .tm t24) false))), (25, .v (.one (.c (.int t25) true))), (26, .v (.one (.c (.int t26) true)))], [(0, some (.bst .tm t1 false)), (1, some (.box [.c (.int t2_0) true, .c (.int t2_1) true, .c (.int t2_2) true, .c (.int t2_3) true, .nils])), (2, some (.row 24 .tm t3 true))], 3⟩
theorem p80_0 (s80 : Tm → Option Tm) (n : Nat) (lab : Nat → SS → Option (RT.den F80.rs)) (x : PTs.den F80.ps) : F80.body (bodyOf Try.f80) tabR tyR true (cs80 s80 n) lab x = o80_0 s80 n (fun t1 t2_0 t2_1 t2_2 t2_3 => lab 1 (st80_1 t1 t2_0 t2_1 t2_2 t2_3)) x.1 := by kernel_rfl
theorem p80_1 (s80 : Tm → Option Tm) (n : Nat) (lab : Nat → SS → Option (RT.den F80.rs)) (t1 : Tm) (t2_0 : Int) (t2_1 : Int) (t2_2 : Int) (t2_3 : Int) : F80.at (bodyOf Try.f80) tabR tyR true (cs80 s80 n) lab 1 (st80_1 t1 t2_0 t2_1 t2_2 t2_3) = o80_1 s80 n (fun t1 t2_0 t2_1 t2_2 t2_3 => lab 1 (st80_1 t1 t2_0 t2_1 t2_2 t2_3)) (fun t1 t2_0 t2_1 t2_2 t2_3 t3 t24 t25 t26 => lab 2 (st80_2 t1 t2_0 t2_1 t2_2 t2_3 t3 t24 t25 t26)) t1 t2_0 t2_1 t2_2 t2_3 := by kernel_rfl
theorem p80_2 (s80 : Tm → Option Tm) (n : Nat) (lab : Nat → SS → Option (RT.den F80.rs)) (t1 : Tm) (t2_0 : Int) (t2_1 : Int) (t2_2 : Int) (t2_3 : Int) (t3 : List Tm) (t24 : List Tm) (t25 : Int) (t26 : Int) : F80.at (bodyOf Try.f80) tabR tyR true (cs80 s80 n) lab 2 (st80_2 t1 t2_0 t2_1 t2_2 t2_3 t3 t24 t25 t26) = o80_2 s80 n (fun t1 t2_0 t2_1 t2_2 t2_3 t3 t24 t25 t26 => lab 2 (st80_2 t1 t2_0 t2_1 t2_2 t2_3 t3 t24 t25 t26)) t1 t2_0 t2_1 t2_2 t2_3 t3 t24 t25 t26 := by kernel_rfl
theorem m80_2 (s80 : Tm → Option Tm) (n : Nat) : ∀ m : Nat, (∀ t1 t2_0 t2_1 t2_2 t2_3 t3 t24 t25 t26, F80.labM (bodyOf Try.f80) tabR tyR true (cs80 s80 n) m 2 (st80_2 t1 t2_0 t2_1 t2_2 t2_3 t3 t24 t25 t26) = l80_2 s80 n m t1 t2_0 t2_1 t2_2 t2_3 t3 t24 t25 t26) := by
  intro m
  induction m with
  | zero => exact fun _ _ _ _ _ _ _ _ _ => rfl
  | succ m ih =>
    intro t1 t2_0 t2_1 t2_2 t2_3 t3 t24 t25 t26
    have e2 : ∀ t1 t2_0 t2_1 t2_2 t2_3 t3 t24 t25 t26, F80.labX (bodyOf Try.f80) tabR tyR true (cs80 s80 n) (F80.labM (bodyOf Try.f80) tabR tyR true (cs80 s80 n) m) 3 2 (st80_2 t1 t2_0 t2_1 t2_2 t2_3 t3 t24 t25 t26) = (l80_2 s80 n m) t1 t2_0 t2_1 t2_2 t2_3 t3 t24 t25 t26 := fun t1 t2_0 t2_1 t2_2 t2_3 t3 t24 t25 t26 => (Fn.labX_loop _ _ _ _ _ _ _ _ _ _ (by kernel_rfl)).trans (ih t1 t2_0 t2_1 t2_2 t2_3 t3 t24 t25 t26)
    rw [Fn.labM_succ]
    show F80.labD (bodyOf Try.f80) tabR tyR true (cs80 s80 n) (F80.labM (bodyOf Try.f80) tabR tyR true (cs80 s80 n) m) (3 + 1) 2 _ = _
    rw [Fn.labD_succ, p80_2]
    simp only [e2]
    rfl
theorem m80_1 (s80 : Tm → Option Tm) (n : Nat) : ∀ m : Nat, (∀ t1 t2_0 t2_1 t2_2 t2_3, F80.labM (bodyOf Try.f80) tabR tyR true (cs80 s80 n) m 1 (st80_1 t1 t2_0 t2_1 t2_2 t2_3) = l80_1 s80 n m t1 t2_0 t2_1 t2_2 t2_3) := by
  intro m
  induction m with
  | zero => exact fun _ _ _ _ _ => rfl
  | succ m ih =>
    intro t1 t2_0 t2_1 t2_2 t2_3
    have e1 : ∀ t1 t2_0 t2_1 t2_2 t2_3, F80.labX (bodyOf Try.f80) tabR tyR true (cs80 s80 n) (F80.labM (bodyOf Try.f80) tabR tyR true (cs80 s80 n) m) 3 1 (st80_1 t1 t2_0 t2_1 t2_2 t2_3) = (l80_1 s80 n m) t1 t2_0 t2_1 t2_2 t2_3 := fun t1 t2_0 t2_1 t2_2 t2_3 => (Fn.labX_loop _ _ _ _ _ _ _ _ _ _ (by kernel_rfl)).trans (ih t1 t2_0 t2_1 t2_2 t2_3)
    have e2 : ∀ t1 t2_0 t2_1 t2_2 t2_3 t3 t24 t25 t26, F80.labX (bodyOf Try.f80) tabR tyR true (cs80 s80 n) (F80.labM (bodyOf Try.f80) tabR tyR true (cs80 s80 n) m) 3 2 (st80_2 t1 t2_0 t2_1 t2_2 t2_3 t3 t24 t25 t26) = (l80_2 s80 n m) t1 t2_0 t2_1 t2_2 t2_3 t3 t24 t25 t26 := fun t1 t2_0 t2_1 t2_2 t2_3 t3 t24 t25 t26 => (Fn.labX_loop _ _ _ _ _ _ _ _ _ _ (by kernel_rfl)).trans ((m80_2 s80 n m) t1 t2_0 t2_1 t2_2 t2_3 t3 t24 t25 t26)
    rw [Fn.labM_succ]
    show F80.labD (bodyOf Try.f80) tabR tyR true (cs80 s80 n) (F80.labM (bodyOf Try.f80) tabR tyR true (cs80 s80 n) m) (3 + 1) 1 _ = _
    rw [Fn.labD_succ, p80_1]
    simp only [e1, e2]
    rfl
theorem w80 (s80 : Tm → Option Tm) (n : Nat) (x : PTs.den F80.ps) : F80.body (bodyOf Try.f80) tabR tyR true (cs80 s80 n) (F80.labX (bodyOf Try.f80) tabR tyR true (cs80 s80 n) (F80.labM (bodyOf Try.f80) tabR tyR true (cs80 s80 n) n) F80.D) x = o80_0 s80 n (l80_1 s80 n n) x.1 := by
  have e1 : ∀ t1 t2_0 t2_1 t2_2 t2_3, F80.labX (bodyOf Try.f80) tabR tyR true (cs80 s80 n) (F80.labM (bodyOf Try.f80) tabR tyR true (cs80 s80 n) n) 4 1 (st80_1 t1 t2_0 t2_1 t2_2 t2_3) = (l80_1 s80 n n) t1 t2_0 t2_1 t2_2 t2_3 := fun t1 t2_0 t2_1 t2_2 t2_3 => (Fn.labX_loop _ _ _ _ _ _ _ _ _ _ (by kernel_rfl)).trans ((m80_1 s80 n n) t1 t2_0 t2_1 t2_2 t2_3)
  show F80.body (bodyOf Try.f80) tabR tyR true (cs80 s80 n) (F80.labX (bodyOf Try.f80) tabR tyR true (cs80 s80 n) (F80.labM (bodyOf Try.f80) tabR tyR true (cs80 s80 n) n) 4) x = _
  rw [p80_0]
  simp only [e1]
  try rfl
theorem call80 : Callable Try.prog 80 := callable_of Try.func80 (by kernel_rfl) (by kernel_rfl)
theorem okr80 : ∀ n : Nat, Cal.Ok Try.prog ⟨80, F80.ps, F80.rs, F80.fr, fun a => f80 n a.1⟩
  | 0 => ⟨by kernel_rfl, fun a r h => by cases h⟩
  | n + 1 => cal_of_fn F80 (code := bodyOf Try.f80) Try.func80 (by kernel_rfl) (by kernel_rfl) call80 htabR (cs := cs80 (f80 n) n) (fun c hc => by
      simp only [cs80, List.mem_cons, List.not_mem_nil, or_false] at hc
      rcases hc with rfl
      · exact (okr80 n)) (fun _ => mixed) (by kernel_rfl) (by kernel_rfl) (by decide) (fun x => ⟨n, w80 (f80 n) n x⟩)
theorem ok80 (n : Nat) : Cal.Ok Try.prog ⟨80, F80.ps, F80.rs, F80.fr, fun a => f80 n a.1⟩ := (okr80 n)
-- tranship/erase.Erase
def o22_0 (n : Nat) (a0 : Tm) : Option Tm :=
  (f79 n a0).bind fun x1 =>
  ifB (!x1) (
    some (Tm.mk (0 : Int) (0 : Int) (0 : Int) (0 : Int) ([] : List Tm))) (
    (f80 n a0).bind fun x2 =>
    some x2)
def f22 (n : Nat) (a0 : Tm) : Option Tm := o22_0 n a0
def an22 : An := .z
def F22 : Fn := { f := 22, a := an22, vars := [.cell 2 24], ps := [.st .tm], rs := [.st .tm], own := false, fr := true, nt := 9, D := 2, loops := [] }
def cs22 (n : Nat) : List Cal := [⟨79, [.st .tm], [.sc .bool], true, fun a => f79 n a.1⟩, ⟨80, [.st .tm], [.st .tm], true, fun a => f80 n a.1⟩]
theorem p22_0 (n : Nat) (lab : Nat → SS → Option (RT.den F22.rs)) (x : PTs.den F22.ps) : F22.body (bodyOf Try.f22) tabR tyR true (cs22 n) lab x = o22_0 n x.1 := by kernel_rfl
theorem w22 (n : Nat) (x : PTs.den F22.ps) : F22.body (bodyOf Try.f22) tabR tyR true (cs22 n) (F22.labX (bodyOf Try.f22) tabR tyR true (cs22 n) (F22.labM (bodyOf Try.f22) tabR tyR true (cs22 n) 0) F22.D) x = o22_0 n x.1 := by
  show F22.body (bodyOf Try.f22) tabR tyR true (cs22 n) (F22.labX (bodyOf Try.f22) tabR tyR true (cs22 n) (F22.labM (bodyOf Try.f22) tabR tyR true (cs22 n) 0) 2) x = _
  rw [p22_0]
theorem call22 : Callable Try.prog 22 := callable_of Try.func22 (by kernel_rfl) (by kernel_rfl)
theorem ok22 (n : Nat) : Cal.Ok Try.prog ⟨22, F22.ps, F22.rs, F22.fr, fun a => f22 n a.1⟩ :=
  cal_of_fn F22 (code := bodyOf Try.f22) Try.func22 (by kernel_rfl) (by kernel_rfl) call22 htabR (cs := cs22 n) (fun c hc => by
      simp only [cs22, List.mem_cons, List.not_mem_nil, or_false] at hc
      rcases hc with rfl | rfl
      · exact ok79 n
      · exact ok80 n) (fun _ => mixed) (by kernel_rfl) (by kernel_rfl) (by decide) (fun x => ⟨0, w22 n x⟩)
-- tranship/erase.count
def o83_0 (s83 : Tm → Option Int) (n : Nat) (k1 : Tm → Int → Option Int) (a0 : Tm) : Option Int :=
  ifB (decide (a0.kind = (12 : Int))) (
    k1 a0 (1 : Int)) (
    k1 a0 (0 : Int))
def o83_1 (s83 : Tm → Option Int) (n : Nat) (k2 : Int → (List Tm) → Int → Int → Option Int) (t1 : Tm) (t3 : Int) : Option Int :=
  k2 t3 t1.kids (t1.kids.length : Int) (0 : Int)
def o83_2 (s83 : Tm → Option Int) (n : Nat) (k2 : Int → (List Tm) → Int → Int → Option Int) (t3 : Int) (t10 : List Tm) (t11 : Int) (t12 : Int) : Option Int :=
  ifB (decide (t12 < t11)) (
    atI t10 t12 fun x1 =>
    (s83 x1).bind fun x2 =>
    ckI (t3 + x2) <|
    ckI (t12 + (1 : Int)) <|
    k2 (t3 + x2) t10 t11 (t12 + (1 : Int))) (
    some t3)
def c83_1 (s83 : Tm → Option Int) (n : Nat) (k2 : Int → (List Tm) → Int → Int → Option Int) (t1 : Tm) (t3 : Int) : Option Int :=
  o83_1 s83 n k2 t1 t3
def l83_2 (s83 : Tm → Option Int) (n : Nat) : Nat → Int → (List Tm) → Int → Int → Option Int
  | 0, _, _, _, _ => none
  | m + 1, t3, t10, t11, t12 => o83_2 s83 n (l83_2 s83 n m) t3 t10 t11 t12
def f83 : Nat → Tm → Option Int
  | 0, _ => none
  | n + 1, a0 => o83_0 (f83 n) n (c83_1 (f83 n) n (l83_2 (f83 n) n n)) a0
def an83 : An := (.n none [] 0 .z (.n none [] 0 .z (.n (some 1) [(1, .ps 0 .tm false), (3, .one .c)] 1 .z (.n none [] 0 (.n none [] 0 .z (.n none [] 0 (.n (some 2) [(3, .one .c), (10, .one (.d .tm false)), (11, .one .c), (12, .one .c)] 0 .z .z) .z)) .z))))
def F83 : Fn := { f := 83, a := an83, vars := [.tmp 2], ps := [.st .tm], rs := [.sc .int], own := false, fr := true, nt := 22, D := 4, loops := [2] }
def cs83 (s83 : Tm → Option Int) (n : Nat) : List Cal := [⟨83, [.st .tm], [.sc .int], true, fun a => s83 a.1⟩]
def st83_1 (t1 : Tm) (t3 : Int) : SS := ⟨[(1, .v (.one (.ptr 0 0))), (3, .v (.one (.c (.int t3) true)))], [(0, some (.bst .tm t1 false))], 1⟩
def st83_2 (t3 : Int) (t10 : List Tm) (t11 : Int) (t12 : Int) : SS := ⟨[(3, .v (.one (.c (.int t3) true))), (10, .v (.one (.c (.sl .tm t10) false))), (11, .v (.one (.c (.int t11) true))), (12, .v (.one (.c (.int t12) true)))], [], 0⟩
theorem p83_0 (s83 : Tm → Option Int) (n : Nat) (lab : Nat → SS → Option (RT.den F83.rs)) (x : PTs.den F83.ps) : F83.body (bodyOf Try.f83) tabR tyR true (cs83 s83 n) lab x = o83_0 s83 n (fun t1 t3 => lab 1 (st83_1 t1 t3)) x.1 := by kernel_rfl
theorem p83_1 (s83 : Tm → Option Int) (n : Nat) (lab : Nat → SS → Option (RT.den F83.rs)) (t1 : Tm) (t3 : Int) : F83.at (bodyOf Try.f83) tabR tyR true (cs83 s83 n) lab 1 (st83_1 t1 t3) = o83_1 s83 n (fun t3 t10 t11 t12 => lab 2 (st83_2 t3 t10 t11 t12)) t1 t3 := by kernel_rfl
theorem p83_2 (s83 : Tm → Option Int) (n : Nat) (lab : Nat → SS → Option (RT.den F83.rs)) (t3 : Int) (t10 : List Tm) (t11 : Int) (t12 : Int) : F83.at (bodyOf Try.f83) tabR tyR true (cs83 s83 n) lab 2 (st83_2 t3 t10 t11 t12) = o83_2 s83 n (fun t3 t10 t11 t12 => lab 2 (st83_2 t3 t10 t11 t12)) t3 t10 t11 t12 := by kernel_rfl
theorem n83_1 (s83 : Tm → Option Int) (n : Nat) (rec : Nat → SS → Option (RT.den F83.rs)) (k2 : Int → (List Tm) → Int → Int → Option Int) (h2 : ∀ t3 t10 t11 t12, rec 2 (st83_2 t3 t10 t11 t12) = k2 t3 t10 t11 t12) (d : Nat) (t1 : Tm) (t3 : Int) : F83.labD (bodyOf Try.f83) tabR tyR true (cs83 s83 n) rec (d + 1) 1 (st83_1 t1 t3) = c83_1 s83 n k2 t1 t3 := by
  have e2 : ∀ t3 t10 t11 t12, F83.labX (bodyOf Try.f83) tabR tyR true (cs83 s83 n) rec d 2 (st83_2 t3 t10 t11 t12) = k2 t3 t10 t11 t12 := fun t3 t10 t11 t12 => (Fn.labX_loop _ _ _ _ _ _ _ _ _ _ (by kernel_rfl)).trans (h2 t3 t10 t11 t12)
  show F83.labD (bodyOf Try.f83) tabR tyR true (cs83 s83 n) rec (d + 1) 1 _ = _
  rw [Fn.labD_succ, p83_1]
  simp only [e2]
  rfl
theorem m83_2 (s83 : Tm → Option Int) (n : Nat) : ∀ m : Nat, (∀ t3 t10 t11 t12, F83.labM (bodyOf Try.f83) tabR tyR true (cs83 s83 n) m 2 (st83_2 t3 t10 t11 t12) = l83_2 s83 n m t3 t10 t11 t12) := by
  intro m
  induction m with
  | zero => exact fun _ _ _ _ => rfl
  | succ m ih =>
    intro t3 t10 t11 t12
    have e2 : ∀ t3 t10 t11 t12, F83.labX (bodyOf Try.f83) tabR tyR true (cs83 s83 n) (F83.labM (bodyOf Try.f83) tabR tyR true (cs83 s83 n) m) 3 2 (st83_2 t3 t10 t11 t12) = (l83_2 s83 n m) t3 t10 t11 t12 := fun t3 t10 t11 t12 => (Fn.labX_loop _ _ _ _ _ _ _ _ _ _ (by kernel_rfl)).trans (ih t3 t10 t11 t12)
    rw [Fn.labM_succ]
    show F83.labD (bodyOf Try.f83) tabR tyR true (cs83 s83 n) (F83.labM (bodyOf Try.f83) tabR tyR true (cs83 s83 n) m) (3 + 1) 2 _ = _
    rw [Fn.labD_succ, p83_2]
    simp only [e2]
    rfl
theorem w83 (s83 : Tm → Option Int) (n : Nat) (x : PTs.den F83.ps) : F83.body (bodyOf Try.f83) tabR tyR true (cs83 s83 n) (F83.labX (bodyOf Try.f83) tabR tyR true (cs83 s83 n) (F83.labM (bodyOf Try.f83) tabR tyR true (cs83 s83 n) n) F83.D) x = o83_0 s83 n (c83_1 s83 n (l83_2 s83 n n)) x.1 := by
  have e1 : ∀ t1 t3, F83.labX (bodyOf Try.f83) tabR tyR true (cs83 s83 n) (F83.labM (bodyOf Try.f83) tabR tyR true (cs83 s83 n) n) 4 1 (st83_1 t1 t3) = c83_1 s83 n (l83_2 s83 n n) t1 t3 := fun t1 t3 => (Fn.labX_step _ _ _ _ _ _ _ _ _ _ (by kernel_rfl)).trans (n83_1 s83 n (F83.labM (bodyOf Try.f83) tabR tyR true (cs83 s83 n) n) (l83_2 s83 n n) (m83_2 s83 n n) 3 t1 t3)
  show F83.body (bodyOf Try.f83) tabR tyR true (cs83 s83 n) (F83.labX (bodyOf Try.f83) tabR tyR true (cs83 s83 n) (F83.labM (bodyOf Try.f83) tabR tyR true (cs83 s83 n) n) 4) x = _
  rw [p83_0]
  simp only [e1]
  try rfl
theorem call83 : Callable Try.prog 83 := callable_of Try.func83 (by kernel_rfl) (by kernel_rfl)
theorem okr83 : ∀ n : Nat, Cal.Ok Try.prog ⟨83, F83.ps, F83.rs, F83.fr, fun a => f83 n a.1⟩
  | 0 => ⟨by kernel_rfl, fun a r h => by cases h⟩
  | n + 1 => cal_of_fn F83 (code := bodyOf Try.f83) Try.func83 (by kernel_rfl) (by kernel_rfl) call83 htabR (cs := cs83 (f83 n) n) (fun c hc => by
      simp only [cs83, List.mem_cons, List.not_mem_nil, or_false] at hc
      rcases hc with rfl
      · exact (okr83 n)) (fun _ => mixed) (by kernel_rfl) (by kernel_rfl) (by decide) (fun x => ⟨n, w83 (f83 n) n x⟩)
theorem ok83 (n : Nat) : Cal.Ok Try.prog ⟨83, F83.ps, F83.rs, F83.fr, fun a => f83 n a.1⟩ := (okr83 n)
-- tranship/erase.Count
def o27_0 (n : Nat) (a0 : Tm) : Option Int :=
  (f79 n a0).bind fun x1 =>
  ifB (!x1) (
    some (0 : Int)) (
    (f83 n a0).bind fun x2 =>
    some x2)
def f27 (n : Nat) (a0 : Tm) : Option Int := o27_0 n a0
def an27 : An := .z
def F27 : Fn := { f := 27, a := an27, vars := [.tmp 2], ps := [.st .tm], rs := [.sc .int], own := false, fr := true, nt := 8, D := 2, loops := [] }
def cs27 (n : Nat) : List Cal := [⟨79, [.st .tm], [.sc .bool], true, fun a => f79 n a.1⟩, ⟨83, [.st .tm], [.sc .int], true, fun a => f83 n a.1⟩]
theorem p27_0 (n : Nat) (lab : Nat → SS → Option (RT.den F27.rs)) (x : PTs.den F27.ps) : F27.body (bodyOf Try.f27) tabR tyR true (cs27 n) lab x = o27_0 n x.1 := by kernel_rfl
theorem w27 (n : Nat) (x : PTs.den F27.ps) : F27.body (bodyOf Try.f27) tabR tyR true (cs27 n) (F27.labX (bodyOf Try.f27) tabR tyR true (cs27 n) (F27.labM (bodyOf Try.f27) tabR tyR true (cs27 n) 0) F27.D) x = o27_0 n x.1 := by
  show F27.body (bodyOf Try.f27) tabR tyR true (cs27 n) (F27.labX (bodyOf Try.f27) tabR tyR true (cs27 n) (F27.labM (bodyOf Try.f27) tabR tyR true (cs27 n) 0) 2) x = _
  rw [p27_0]
theorem call27 : Callable Try.prog 27 := callable_of Try.func27 (by kernel_rfl) (by kernel_rfl)
theorem ok27 (n : Nat) : Cal.Ok Try.prog ⟨27, F27.ps, F27.rs, F27.fr, fun a => f27 n a.1⟩ :=
  cal_of_fn F27 (code := bodyOf Try.f27) Try.func27 (by kernel_rfl) (by kernel_rfl) call27 htabR (cs := cs27 n) (fun c hc => by
      simp only [cs27, List.mem_cons, List.not_mem_nil, or_false] at hc
      rcases hc with rfl | rfl
      · exact ok79 n
      · exact ok83 n) (fun _ => mixed) (by kernel_rfl) (by kernel_rfl) (by decide) (fun x => ⟨0, w27 n x⟩)
-- tranship/erase.Related
def o85_0 (n : Nat) (a0 : Tm) (a1 : Tm) : Option Bool :=
  (f79 n a0).bind fun x1 =>
  ifB x1 (
    (f79 n a1).bind fun x2 =>
    ifB x2 (
      (f80 n a0).bind fun x3 =>
      (f80 n a1).bind fun x4 =>
      (f126 n x3 x4).bind fun x5 =>
      some x5) (
      some false)) (
    some false)
def f85 (n : Nat) (a0 : Tm) (a1 : Tm) : Option Bool := o85_0 n a0 a1
def an85 : An := .z
def F85 : Fn := { f := 85, a := an85, vars := [.tmp 4], ps := [.st .tm, .st .tm], rs := [.sc .bool], own := false, fr := true, nt := 18, D := 2, loops := [] }
def cs85 (n : Nat) : List Cal := [⟨79, [.st .tm], [.sc .bool], true, fun a => f79 n a.1⟩, ⟨80, [.st .tm], [.st .tm], true, fun a => f80 n a.1⟩, ⟨126, [.st .tm, .st .tm], [.sc .bool], true, fun a => f126 n a.1 a.2.1⟩]
theorem p85_0 (n : Nat) (lab : Nat → SS → Option (RT.den F85.rs)) (x : PTs.den F85.ps) : F85.body (bodyOf Try.f85) tabR tyR true (cs85 n) lab x = o85_0 n x.1 x.2.1 := by kernel_rfl
theorem w85 (n : Nat) (x : PTs.den F85.ps) : F85.body (bodyOf Try.f85) tabR tyR true (cs85 n) (F85.labX (bodyOf Try.f85) tabR tyR true (cs85 n) (F85.labM (bodyOf Try.f85) tabR tyR true (cs85 n) 0) F85.D) x = o85_0 n x.1 x.2.1 := by
  show F85.body (bodyOf Try.f85) tabR tyR true (cs85 n) (F85.labX (bodyOf Try.f85) tabR tyR true (cs85 n) (F85.labM (bodyOf Try.f85) tabR tyR true (cs85 n) 0) 2) x = _
  rw [p85_0]
theorem call85 : Callable Try.prog 85 := callable_of Try.func85 (by kernel_rfl) (by kernel_rfl)
theorem ok85 (n : Nat) : Cal.Ok Try.prog ⟨85, F85.ps, F85.rs, F85.fr, fun a => f85 n a.1 a.2.1⟩ :=
  cal_of_fn F85 (code := bodyOf Try.f85) Try.func85 (by kernel_rfl) (by kernel_rfl) call85 htabR (cs := cs85 n) (fun c hc => by
      simp only [cs85, List.mem_cons, List.not_mem_nil, or_false] at hc
      rcases hc with rfl | rfl | rfl
      · exact ok79 n
      · exact ok80 n
      · exact ok126 n) (fun _ => mixed) (by kernel_rfl) (by kernel_rfl) (by decide) (fun x => ⟨0, w85 n x⟩)
-- tranship/transhipref04.strip
def o86_0 (s86 : Tm → Option Tm) (n : Nat) (k1 : Tm → Int → Int → Int → Int → Int → (List Int) → Option Tm) (a0 : Tm) : Option Tm :=
  ifB (decide (a0.kind = (3 : Int))) (
    k1 a0 (0 : Int) (0 : Int) (0 : Int) (0 : Int) (13 : Int) [(0 : Int), (1 : Int)]) (
    ifB (decide (a0.kind = (4 : Int))) (
      k1 a0 (0 : Int) (0 : Int) (0 : Int) (0 : Int) (14 : Int) [(0 : Int), (2 : Int)]) (
      ifB (decide (a0.kind = (5 : Int))) (
        k1 a0 (0 : Int) (0 : Int) (0 : Int) (0 : Int) (15 : Int) [(2 : Int), (3 : Int)]) (
        ifB (decide (a0.kind = (6 : Int))) (
          k1 a0 (0 : Int) (0 : Int) (0 : Int) (0 : Int) (16 : Int) [(0 : Int), (1 : Int)]) (
          ifB (decide (a0.kind = (7 : Int))) (
            k1 a0 (0 : Int) (0 : Int) (0 : Int) (0 : Int) (17 : Int) [(0 : Int), (1 : Int), (2 : Int), (3 : Int)]) (
            ifB (decide (a0.kind = (8 : Int))) (
              k1 a0 (0 : Int) (0 : Int) (0 : Int) (0 : Int) (18 : Int) [(2 : Int)]) (
              ifB (decide (a0.kind = (9 : Int))) (
                k1 a0 (0 : Int) (0 : Int) (0 : Int) (0 : Int) (19 : Int) [(2 : Int)]) (
                ifB (decide (a0.kind = (10 : Int))) (
                  k1 a0 (0 : Int) (0 : Int) (0 : Int) (0 : Int) (20 : Int) [(0 : Int), (1 : Int), (2 : Int)]) (
                  ifB (decide (a0.kind = (11 : Int))) (
                    k1 a0 (0 : Int) (0 : Int) (0 : Int) (0 : Int) (21 : Int) [(0 : Int), (1 : Int)]) (
                    ifB (decide (a0.kind = (12 : Int))) (
                      atI a0.kids (0 : Int) fun x1 =>
                      (s86 x1).bind fun x2 =>
                      atI a0.kids (1 : Int) fun x3 =>
                      (s86 x3).bind fun x4 =>
                      atI a0.kids (2 : Int) fun x5 =>
                      atI a0.kids (3 : Int) fun x6 =>
                      (s86 x6).bind fun x7 =>
                      some (Tm.mk (23 : Int) a0.i (0 : Int) (5 : Int) [(Tm.mk x2.kind x2.i x2.j x2.n x2.kids), (Tm.mk x4.kind x4.i x4.j x4.n x4.kids), (Tm.mk x5.kind x5.i x5.j x5.n x5.kids), (Tm.mk x7.kind x7.i x7.j x7.n x7.kids)])) (
                      some a0))))))))))
def o86_1 (s86 : Tm → Option Tm) (n : Nat) (k2 : Tm → Int → Int → Int → Int → Int → (List Int) → (List Tm) → Int → Option Tm) (t1 : Tm) (t2_0 : Int) (t2_1 : Int) (t2_2 : Int) (t2_3 : Int) (t3 : Int) (t4 : List Int) : Option Tm :=
  k2 t1 t2_0 t2_1 t2_2 t2_3 t3 t4 ([] : List Tm) (0 : Int)
def o86_2 (s86 : Tm → Option Tm) (n : Nat) (k2 : Tm → Int → Int → Int → Int → Int → (List Int) → (List Tm) → Int → Option Tm) (t1 : Tm) (t2_0 : Int) (t2_1 : Int) (t2_2 : Int) (t2_3 : Int) (t3 : Int) (t4 : List Int) (t5 : List Tm) (t6 : Int) : Option Tm :=
  ifB (decide (t6 < (t4.length : Int))) (
    ckB (decide (0 ≤ t6) && decide (t6 < t4.length)) <|
    atN t4 t6.toNat fun x8 =>
    atI t1.kids x8 fun x9 =>
    (s86 x9).bind fun x10 =>
    ckB (decide ((t5.length + [(Tm.mk x10.kind x10.i x10.j x10.n x10.kids)].length) * 56 ≤ 140737488355328) && decide (t5.length + [(Tm.mk x10.kind x10.i x10.j x10.n x10.kids)].length ≤ 9223372036854775807)) <|
    ckI (t6 + (1 : Int)) <|
    k2 t1 t2_0 t2_1 t2_2 t2_3 t3 t4 (t5 ++ [(Tm.mk x10.kind x10.i x10.j x10.n x10.kids)]) (t6 + (1 : Int))) (
    some (Tm.mk t3 (0 : Int) (0 : Int) (0 : Int) t5))
def c86_1 (s86 : Tm → Option Tm) (n : Nat) (k2 : Tm → Int → Int → Int → Int → Int → (List Int) → (List Tm) → Int → Option Tm) (t1 : Tm) (t2_0 : Int) (t2_1 : Int) (t2_2 : Int) (t2_3 : Int) (t3 : Int) (t4 : List Int) : Option Tm :=
  o86_1 s86 n k2 t1 t2_0 t2_1 t2_2 t2_3 t3 t4
def l86_2 (s86 : Tm → Option Tm) (n : Nat) : Nat → Tm → Int → Int → Int → Int → Int → (List Int) → (List Tm) → Int → Option Tm
  | 0, _, _, _, _, _, _, _, _, _ => none
  | m + 1, t1, t2_0, t2_1, t2_2, t2_3, t3, t4, t5, t6 => o86_2 s86 n (l86_2 s86 n m) t1 t2_0 t2_1 t2_2 t2_3 t3 t4 t5 t6
def f86 : Nat → Tm → Option Tm
  | 0, _ => none
  | n + 1, a0 => o86_0 (f86 n) n (c86_1 (f86 n) n (l86_2 (f86 n) n n)) a0
def an86 : An := (.n none [] 0 .z (.n none [] 0 .z (.n (some 1) [(1, .ps 0 .tm false), (2, .p 1 [.c, .c, .c, .c, .k]), (3, .one .c), (4, .one (.r 2 3 .int true))] 3 .z (.n none [] 0 .z (.n none [] 0 (.n none [] 0 .z (.n none [] 0 (.n (some 2) [(1, .ps 0 .tm false), (2, .p 1 [.c, .c, .c, .c, .k]), (3, .one .c), (4, .one (.r 2 3 .int true)), (5, .one (.r 3 24 .tm false)), (6, .one .c)] 4 .z .z) .z)) .z)))))
def F86 : Fn := { f := 86, a := an86, vars := [.cell 2 24], ps := [.st .tm], rs := [.st .tm], own := false, fr := false, nt := 84, D := 4, loops := [2] }
def cs86 (s86 : Tm → Option Tm) (n : Nat) : List Cal := [⟨86, [.st .tm], [.st .tm], false, fun a => s86 a.1⟩]
def st86_1 (t1 : Tm) (t2_0 : Int) (t2_1 : Int) (t2_2 : Int) (t2_3 : Int) (t3 : Int) (t4 : List Int) : SS := ⟨[(1, .v (.one (.ptr 0 0))), (2, .v (.one (.ptr 1 0))), (3, .v (.one (.c (.int t3) true))), (4, .v (.one (.arr 2)))], [(0, some (.bst .tm t1 false)), (1, some (.box [.c (.int t2_0) true, .c (.int t2_1) true, .c (.int t2_2) true, .c (.int t2_3) true, .nils])), (2, some (.row 3 .int t4 true))], 3⟩
def st86_2 (t1 : Tm) (t2_0 : Int) (t2_1 : Int) (t2_2 : Int) (t2_3 : Int) (t3 : Int) (t4 : List Int) (t5 : List Tm) (t6 : Int) : SS := ⟨[(1, .v (.one (.ptr 0 0))), (2, .v (.one (.ptr 1 0))), (3, .v (.one (.c (.int t3) true))), (4, .v (.one (.arr 2))), (5, .v (.one (.arr 3))), (6, .v (.one (.c (.int t6) true)))], [(0, some (.bst .tm t1 false)), (1, some (.box [.c (.int t2_0) true, .c (.int t2_1) true, .c (.int t2_2) true, .c (.int t2_3) true, .nils])), (2, some (.row 3 .int t4 true)), (3, some (.row 24 .tm t5 false))], 4⟩
theorem p86_0 (s86 : Tm → Option Tm) (n : Nat) (lab : Nat → SS → Option (RT.den F86.rs)) (x : PTs.den F86.ps) : F86.body (bodyOf Try.f86) tabR tyR true (cs86 s86 n) lab x = o86_0 s86 n (fun t1 t2_0 t2_1 t2_2 t2_3 t3 t4 => lab 1 (st86_1 t1 t2_0 t2_1 t2_2 t2_3 t3 t4)) x.1 := by kernel_rfl
theorem p86_1 (s86 : Tm → Option Tm) (n : Nat) (lab : Nat → SS → Option (RT.den F86.rs)) (t1 : Tm) (t2_0 : Int) (t2_1 : Int) (t2_2 : Int) (t2_3 : Int) (t3 : Int) (t4 : List Int) : F86.at (bodyOf Try.f86) tabR tyR true (cs86 s86 n) lab 1 (st86_1 t1 t2_0 t2_1 t2_2 t2_3 t3 t4) = o86_1 s86 n (fun t1 t2_0 t2_1 t2_2 t2_3 t3 t4 t5 t6 => lab 2 (st86_2 t1 t2_0 t2_1 t2_2 t2_3 t3 t4 t5 t6)) t1 t2_0 t2_1 t2_2 t2_3 t3 t4 := by kernel_rfl
theorem p86_2 (s86 : Tm → Option Tm) (n : Nat) (lab : Nat → SS → Option (RT.den F86.rs)) (t1 : Tm) (t2_0 : Int) (t2_1 : Int) (t2_2 : Int) (t2_3 : Int) (t3 : Int) (t4 : List Int) (t5 : List Tm) (t6 : Int) : F86.at (bodyOf Try.f86) tabR tyR true (cs86 s86 n) lab 2 (st86_2 t1 t2_0 t2_1 t2_2 t2_3 t3 t4 t5 t6) = o86_2 s86 n (fun t1 t2_0 t2_1 t2_2 t2_3 t3 t4 t5 t6 => lab 2 (st86_2 t1 t2_0 t2_1 t2_2 t2_3 t3 t4 t5 t6)) t1 t2_0 t2_1 t2_2 t2_3 t3 t4 t5 t6 := by kernel_rfl
theorem n86_1 (s86 : Tm → Option Tm) (n : Nat) (rec : Nat → SS → Option (RT.den F86.rs)) (k2 : Tm → Int → Int → Int → Int → Int → (List Int) → (List Tm) → Int → Option Tm) (h2 : ∀ t1 t2_0 t2_1 t2_2 t2_3 t3 t4 t5 t6, rec 2 (st86_2 t1 t2_0 t2_1 t2_2 t2_3 t3 t4 t5 t6) = k2 t1 t2_0 t2_1 t2_2 t2_3 t3 t4 t5 t6) (d : Nat) (t1 : Tm) (t2_0 : Int) (t2_1 : Int) (t2_2 : Int) (t2_3 : Int) (t3 : Int) (t4 : List Int) : F86.labD (bodyOf Try.f86) tabR tyR true (cs86 s86 n) rec (d + 1) 1 (st86_1 t1 t2_0 t2_1 t2_2 t2_3 t3 t4) = c86_1 s86 n k2 t1 t2_0 t2_1 t2_2 t2_3 t3 t4 := by
  have e2 : ∀ t1 t2_0 t2_1 t2_2 t2_3 t3 t4 t5 t6, F86.labX (bodyOf Try.f86) tabR tyR true (cs86 s86 n) rec d 2 (st86_2 t1 t2_0 t2_1 t2_2 t2_3 t3 t4 t5 t6) = k2 t1 t2_0 t2_1 t2_2 t2_3 t3 t4 t5 t6 := fun t1 t2_0 t2_1 t2_2 t2_3 t3 t4 t5 t6 => (Fn.labX_loop _ _ _ _ _ _ _ _ _ _ (by kernel_rfl)).trans (h2 t1 t2_0 t2_1 t2_2 t2_3 t3 t4 t5 t6)
  show F86.labD (bodyOf Try.f86) tabR tyR true (cs86 s86 n) rec (d + 1) 1 _ = _
  rw [Fn.labD_succ, p86_1]
  simp only [e2]
  rfl
theorem m86_2 (s86 : Tm → Option Tm) (n : Nat) : ∀ m : Nat, (∀ t1 t2_0 t2_1 t2_2 t2_3 t3 t4 t5 t6, F86.labM (bodyOf Try.f86) tabR tyR true (cs86 s86 n) m 2 (st86_2 t1 t2_0 t2_1 t2_2 t2_3 t3 t4 t5 t6) = l86_2 s86 n m t1 t2_0 t2_1 t2_2 t2_3 t3 t4 t5 t6) := by
  intro m
  induction m with
  | zero => exact fun _ _ _ _ _ _ _ _ _ => rfl
  | succ m ih =>
    intro t1 t2_0 t2_1 t2_2 t2_3 t3 t4 t5 t6
    have e2 : ∀ t1 t2_0 t2_1 t2_2 t2_3 t3 t4 t5 t6, F86.labX (bodyOf Try.f86) tabR tyR true (cs86 s86 n) (F86.labM (bodyOf Try.f86) tabR tyR true (cs86 s86 n) m) 3 2 (st86_2 t1 t2_0 t2_1 t2_2 t2_3 t3 t4 t5 t6) = (l86_2 s86 n m) t1 t2_0 t2_1 t2_2 t2_3 t3 t4 t5 t6 := fun t1 t2_0 t2_1 t2_2 t2_3 t3 t4 t5 t6 => (Fn.labX_loop _ _ _ _ _ _ _ _ _ _ (by kernel_rfl)).trans (ih t1 t2_0 t2_1 t2_2 t2_3 t3 t4 t5 t6)
    rw [Fn.labM_succ]
    show F86.labD (bodyOf Try.f86) tabR tyR true (cs86 s86 n) (F86.labM (bodyOf Try.f86) tabR tyR true (cs86 s86 n) m) (3 + 1) 2 _ = _
    rw [Fn.labD_succ, p86_2]
    simp only [e2]
    rfl
theorem w86 (s86 : Tm → Option Tm) (n : Nat) (x : PTs.den F86.ps) : F86.body (bodyOf Try.f86) tabR tyR true (cs86 s86 n) (F86.labX (bodyOf Try.f86) tabR tyR true (cs86 s86 n) (F86.labM (bodyOf Try.f86) tabR tyR true (cs86 s86 n) n) F86.D) x = o86_0 s86 n (c86_1 s86 n (l86_2 s86 n n)) x.1 := by
  have e1 : ∀ t1 t2_0 t2_1 t2_2 t2_3 t3 t4, F86.labX (bodyOf Try.f86) tabR tyR true (cs86 s86 n) (F86.labM (bodyOf Try.f86) tabR tyR true (cs86 s86 n) n) 4 1 (st86_1 t1 t2_0 t2_1 t2_2 t2_3 t3 t4) = c86_1 s86 n (l86_2 s86 n n) t1 t2_0 t2_1 t2_2 t2_3 t3 t4 := fun t1 t2_0 t2_1 t2_2 t2_3 t3 t4 => (Fn.labX_step _ _ _ _ _ _ _ _ _ _ (by kernel_rfl)).trans (n86_1 s86 n (F86.labM (bodyOf Try.f86) tabR tyR true (cs86 s86 n) n) (l86_2 s86 n n) (m86_2 s86 n n) 3 t1 t2_0 t2_1 t2_2 t2_3 t3 t4)
  show F86.body (bodyOf Try.f86) tabR tyR true (cs86 s86 n) (F86.labX (bodyOf Try.f86) tabR tyR true (cs86 s86 n) (F86.labM (bodyOf Try.f86) tabR tyR true (cs86 s86 n) n) 4) x = _
  rw [p86_0]
  simp only [e1]
  try rfl
theorem call86 : Callable Try.prog 86 := callable_of Try.func86 (by kernel_rfl) (by kernel_rfl)
theorem okr86 : ∀ n : Nat, Cal.Ok Try.prog ⟨86, F86.ps, F86.rs, F86.fr, fun a => f86 n a.1⟩
  | 0 => ⟨by kernel_rfl, fun a r h => by cases h⟩
  | n + 1 => cal_of_fn F86 (code := bodyOf Try.f86) Try.func86 (by kernel_rfl) (by kernel_rfl) call86 htabR (cs := cs86 (f86 n) n) (fun c hc => by
      simp only [cs86, List.mem_cons, List.not_mem_nil, or_false] at hc
      rcases hc with rfl
      · exact (okr86 n)) (fun _ => mixed) (by kernel_rfl) (by kernel_rfl) (by decide) (fun x => ⟨n, w86 (f86 n) n x⟩)
theorem ok86 (n : Nat) : Cal.Ok Try.prog ⟨86, F86.ps, F86.rs, F86.fr, fun a => f86 n a.1⟩ := (okr86 n)
-- tranship/transhipref04.Strip
def o29_0 (n : Nat) (a0 : Tm) : Option Tm :=
  (f82 n a0).bind fun x1 =>
  ifB x1 (
    some a0) (
    (f25 n a0).bind fun x2 =>
    ifB x2 (
      (f86 n a0).bind fun x3 =>
      some x3) (
      some (Tm.mk (0 : Int) (0 : Int) (0 : Int) (0 : Int) ([] : List Tm))))
def f29 (n : Nat) (a0 : Tm) : Option Tm := o29_0 n a0
def an29 : An := .z
def F29 : Fn := { f := 29, a := an29, vars := [.cell 2 24], ps := [.st .tm], rs := [.st .tm], own := false, fr := false, nt := 13, D := 2, loops := [] }
def cs29 (n : Nat) : List Cal := [⟨25, [.st .tm], [.sc .bool], true, fun a => f25 n a.1⟩, ⟨82, [.st .tm], [.sc .bool], true, fun a => f82 n a.1⟩, ⟨86, [.st .tm], [.st .tm], false, fun a => f86 n a.1⟩]
theorem p29_0 (n : Nat) (lab : Nat → SS → Option (RT.den F29.rs)) (x : PTs.den F29.ps) : F29.body (bodyOf Try.f29) tabR tyR true (cs29 n) lab x = o29_0 n x.1 := by kernel_rfl
theorem w29 (n : Nat) (x : PTs.den F29.ps) : F29.body (bodyOf Try.f29) tabR tyR true (cs29 n) (F29.labX (bodyOf Try.f29) tabR tyR true (cs29 n) (F29.labM (bodyOf Try.f29) tabR tyR true (cs29 n) 0) F29.D) x = o29_0 n x.1 := by
  show F29.body (bodyOf Try.f29) tabR tyR true (cs29 n) (F29.labX (bodyOf Try.f29) tabR tyR true (cs29 n) (F29.labM (bodyOf Try.f29) tabR tyR true (cs29 n) 0) 2) x = _
  rw [p29_0]
theorem call29 : Callable Try.prog 29 := callable_of Try.func29 (by kernel_rfl) (by kernel_rfl)
theorem ok29 (n : Nat) : Cal.Ok Try.prog ⟨29, F29.ps, F29.rs, F29.fr, fun a => f29 n a.1⟩ :=
  cal_of_fn F29 (code := bodyOf Try.f29) Try.func29 (by kernel_rfl) (by kernel_rfl) call29 htabR (cs := cs29 n) (fun c hc => by
      simp only [cs29, List.mem_cons, List.not_mem_nil, or_false] at hc
      rcases hc with rfl | rfl | rfl
      · exact ok25 n
      · exact ok82 n
      · exact ok86 n) (fun _ => mixed) (by kernel_rfl) (by kernel_rfl) (by decide) (fun x => ⟨0, w29 n x⟩)
-- tranship/strip.strip
def o88_0 (s88 : Tm → Option Tm) (n : Nat) (k1 : Tm → Int → Int → Int → Int → Int → Int → Option Tm) (a0 : Tm) : Option Tm :=
  ifB (decide (a0.kind = (3 : Int))) (
    k1 a0 (0 : Int) (0 : Int) (0 : Int) (0 : Int) (13 : Int) (0 : Int)) (
    ifB (decide (a0.kind = (4 : Int))) (
      atI a0.kids (0 : Int) fun x1 =>
      (s88 x1).bind fun x2 =>
      atI a0.kids (2 : Int) fun x3 =>
      (s88 x3).bind fun x4 =>
      (f127 (14 : Int) (0 : Int) (0 : Int) (0 : Int) [(Tm.mk x2.kind x2.i x2.j x2.n x2.kids), (Tm.mk x4.kind x4.i x4.j x4.n x4.kids)]).bind fun x5 =>
      some x5) (
      ifB (decide (a0.kind = (5 : Int))) (
        k1 a0 (0 : Int) (0 : Int) (0 : Int) (0 : Int) (15 : Int) (2 : Int)) (
        ifB (decide (a0.kind = (6 : Int))) (
          k1 a0 (0 : Int) (0 : Int) (0 : Int) (0 : Int) (16 : Int) (0 : Int)) (
          ifB (decide (a0.kind = (7 : Int))) (
            k1 a0 (0 : Int) (0 : Int) (0 : Int) (0 : Int) (17 : Int) (0 : Int)) (
            ifB (decide (a0.kind = (8 : Int))) (
              k1 a0 (0 : Int) (0 : Int) (0 : Int) (0 : Int) (18 : Int) (2 : Int)) (
              ifB (decide (a0.kind = (9 : Int))) (
                k1 a0 (0 : Int) (0 : Int) (0 : Int) (0 : Int) (19 : Int) (2 : Int)) (
                ifB (decide (a0.kind = (10 : Int))) (
                  k1 a0 (0 : Int) (0 : Int) (0 : Int) (0 : Int) (20 : Int) (0 : Int)) (
                  ifB (decide (a0.kind = (11 : Int))) (
                    k1 a0 (0 : Int) (0 : Int) (0 : Int) (0 : Int) (21 : Int) (0 : Int)) (
                    ifB (decide (a0.kind = (12 : Int))) (
                      atI a0.kids (0 : Int) fun x6 =>
                      (s88 x6).bind fun x7 =>
                      atI a0.kids (1 : Int) fun x8 =>
                      (s88 x8).bind fun x9 =>
                      atI a0.kids (2 : Int) fun x10 =>
                      (f102 n x10).bind fun x11 =>
                      atI a0.kids (3 : Int) fun x12 =>
                      (s88 x12).bind fun x13 =>
                      (f127 (23 : Int) a0.i (0 : Int) (5 : Int) [(Tm.mk x7.kind x7.i x7.j x7.n x7.kids), (Tm.mk x9.kind x9.i x9.j x9.n x9.kids), (Tm.mk x11.kind x11.i x11.j x11.n x11.kids), (Tm.mk x13.kind x13.i x13.j x13.n x13.kids)]).bind fun x14 =>
                      some x14) (
                      (f102 n a0).bind fun x15 =>
                      some x15))))))))))
def o88_1 (s88 : Tm → Option Tm) (n : Nat) (k2 : Int → Int → Int → Int → Int → Int → Int → Int → (List Tm) → (List Tm) → Int → Int → Option Tm) (t1 : Tm) (t2_0 : Int) (t2_1 : Int) (t2_2 : Int) (t2_3 : Int) (t3 : Int) (t4 : Int) : Option Tm :=
  ckI ((t1.kids.length : Int) - t4) <|
  ckB (decide (0 ≤ (0 : Int)) && (decide ((0 : Int) ≤ ((t1.kids.length : Int) - t4)) && decide ((56 : Nat) * ((t1.kids.length : Int) - t4) ≤ 281474976710656))) <|
  ckB (decide (0 ≤ t4) && (decide (t4 ≤ (t1.kids.length : Int)) && decide ((t1.kids.length : Int) ≤ t1.kids.length))) <|
  k2 t2_0 t2_1 t2_2 t2_3 t3 (0 : Int) (0 : Int) (0 : Int) (List.replicate (0 : Int).toNat (Tm.mk (0 : Int) (0 : Int) (0 : Int) (0 : Int) ([] : List Tm))) ((t1.kids.take (t1.kids.length : Int).toNat).drop t4.toNat) (((t1.kids.take (t1.kids.length : Int).toNat).drop t4.toNat).length : Int) (0 : Int)
def o88_2 (s88 : Tm → Option Tm) (n : Nat) (k2 : Int → Int → Int → Int → Int → Int → Int → Int → (List Tm) → (List Tm) → Int → Int → Option Tm) (t2_0 : Int) (t2_1 : Int) (t2_2 : Int) (t2_3 : Int) (t5_0 : Int) (t5_1 : Int) (t5_2 : Int) (t5_3 : Int) (t5_4 : List Tm) (t79 : List Tm) (t80 : Int) (t81 : Int) : Option Tm :=
  ifB (decide (t81 < t80)) (
    atI t79 t81 fun x16 =>
    (s88 x16).bind fun x17 =>
    ckB (decide ((t5_4.length + [(Tm.mk x17.kind x17.i x17.j x17.n x17.kids)].length) * 56 ≤ 140737488355328) && decide (t5_4.length + [(Tm.mk x17.kind x17.i x17.j x17.n x17.kids)].length ≤ 9223372036854775807)) <|
    ckI (t81 + (1 : Int)) <|
    k2 t2_0 t2_1 t2_2 t2_3 t5_0 t5_1 t5_2 t5_3 (t5_4 ++ [(Tm.mk x17.kind x17.i x17.j x17.n x17.kids)]) t79 t80 (t81 + (1 : Int))) (
    some (Tm.mk t5_0 t5_1 t5_2 t5_3 t5_4))
def c88_1 (s88 : Tm → Option Tm) (n : Nat) (k2 : Int → Int → Int → Int → Int → Int → Int → Int → (List Tm) → (List Tm) → Int → Int → Option Tm) (t1 : Tm) (t2_0 : Int) (t2_1 : Int) (t2_2 : Int) (t2_3 : Int) (t3 : Int) (t4 : Int) : Option Tm :=
  o88_1 s88 n k2 t1 t2_0 t2_1 t2_2 t2_3 t3 t4
def l88_2 (s88 : Tm → Option Tm) (n : Nat) : Nat → Int → Int → Int → Int → Int → Int → Int → Int → (List Tm) → (List Tm) → Int → Int → Option Tm
  | 0, _, _, _, _, _, _, _, _, _, _, _, _ => none
  | m + 1, t2_0, t2_1, t2_2, t2_3, t5_0, t5_1, t5_2, t5_3, t5_4, t79, t80, t81 => o88_2 s88 n (l88_2 s88 n m) t2_0 t2_1 t2_2 t2_3 t5_0 t5_1 t5_2 t5_3 t5_4 t79 t80 t81
def f88 : Nat → Tm → Option Tm
  | 0, _ => none
  | n + 1, a0 => o88_0 (f88 n) n (c88_1 (f88 n) n (l88_2 (f88 n) n n)) a0
def an88 : An := (.n none [] 0 .z (.n none [] 0 .z (.n (some 1) [(1, .ps 0 .tm false), (2, .p 1 [.c, .c, .c, .c, .k]), (3, .one .c), (4, .one .c)] 2 .z (.n none [] 0 .z (.n none [] 0 (.n none [] 0 .z (.n none [] 0 (.n (some 2) [(2, .p 0 [.c, .c, .c, .c, .k]), (5, .p 1 [.c, .c, .c, .c, .r 2 24 .tm false]), (79, .one (.d .tm false)), (80, .one .c), (81, .one .c)] 3 .z .z) .z)) .z)))))
def F88 : Fn := { f := 88, a := an88, vars := [.cell 2 24], ps := [.st .tm], rs := [.st .tm], own := false, fr := false, nt := 94, D := 4, loops := [2] }
def cs88 (s88 : Tm → Option Tm) (n : Nat) : List Cal := [⟨88, [.st .tm], [.st .tm], false, fun a => s88 a.1⟩, ⟨102, [.st .tm], [.st .tm], true, fun a => f102 n a.1⟩, ⟨127, [.sc .int, .sc .int, .sc .int, .sc .int, .sl .tm], [.st .tm], false, fun a => f127 a.1 a.2.1 a.2.2.1 a.2.2.2.1 a.2.2.2.2.1⟩]
def st88_1 (t1 : Tm) (t2_0 : Int) (t2_1 : Int) (t2_2 : Int) (t2_3 : Int) (t3 : Int) (t4 : Int) : SS := ⟨[(1, .v (.one (.ptr 0 0))), (2, .v (.one (.ptr 1 0))), (3, .v (.one (.c (.int t3) true))), (4, .v (.one (.c (.int t4) true)))], [(0, some (.bst .tm t1 false)), (1, some (.box [.c (.int t2_0) true, .c (.int t2_1) true, .c (.int t2_2) true, .c (.int t2_3) true, .nils]))], 2⟩
def st88_2 (t2_0 : Int) (t2_1 : Int) (t2_2 : Int) (t2_3 : Int) (t5_0 : Int) (t5_1 : Int) (t5_2 : Int) (t5_3 : Int) (t5_4 : List Tm) (t79 : List Tm) (t80 : Int) (t81 : Int) : SS := ⟨[(2, .v (.one (.ptr 0 0))), (5, .v (.one (.ptr 1 0))), (79, .v (.one (.c (.sl .tm t79) false))), (80, .v (.one (.c (.int t80) true))), (81, .v (.one (.c (.int t81) true)))], [(0, some (.box [.c (.int t2_0) true, .c (.int t2_1) true, .c (.int t2_2) true, .c (.int t2_3) true, .nils])), (1, some (.box [.c (.int t5_0) true, .c (.int t5_1) true, .c (.int t5_2) true, .c (.int t5_3) true, .arr 2])), (2, some (.row 24 .tm t5_4 false))], 3⟩
theorem p88_0 (s88 : Tm → Option Tm) (n : Nat) (lab : Nat → SS → Option (RT.den F88.rs)) (x : PTs.den F88.ps) : F88.body (bodyOf Try.f88) tabR tyR true (cs88 s88 n) lab x = o88_0 s88 n (fun t1 t2_0 t2_1 t2_2 t2_3 t3 t4 => lab 1 (st88_1 t1 t2_0 t2_1 t2_2 t2_3 t3 t4)) x.1 := by kernel_rfl
theorem p88_1 (s88 : Tm → Option Tm) (n : Nat) (lab : Nat → SS → Option (RT.den F88.rs)) (t1 : Tm) (t2_0 : Int) (t2_1 : Int) (t2_2 : Int) (t2_3 : Int) (t3 : Int) (t4 : Int) : F88.at (bodyOf Try.f88) tabR tyR true (cs88 s88 n) lab 1 (st88_1 t1 t2_0 t2_1 t2_2 t2_3 t3 t4) = o88_1 s88 n (fun t2_0 t2_1 t2_2 t2_3 t5_0 t5_1 t5_2 t5_3 t5_4 t79 t80 t81 => lab 2 (st88_2 t2_0 t2_1 t2_2 t2_3 t5_0 t5_1 t5_2 t5_3 t5_4 t79 t80 t81)) t1 t2_0 t2_1 t2_2 t2_3 t3 t4 := by kernel_rfl
theorem p88_2 (s88 : Tm → Option Tm) (n : Nat) (lab : Nat → SS → Option (RT.den F88.rs)) (t2_0 : Int) (t2_1 : Int) (t2_2 : Int) (t2_3 : Int) (t5_0 : Int) (t5_1 : Int) (t5_2 : Int) (t5_3 : Int) (t5_4 : List Tm) (t79 : List Tm) (t80 : Int) (t81 : Int) : F88.at (bodyOf Try.f88) tabR tyR true (cs88 s88 n) lab 2 (st88_2 t2_0 t2_1 t2_2 t2_3 t5_0 t5_1 t5_2 t5_3 t5_4 t79 t80 t81) = o88_2 s88 n (fun t2_0 t2_1 t2_2 t2_3 t5_0 t5_1 t5_2 t5_3 t5_4 t79 t80 t81 => lab 2 (st88_2 t2_0 t2_1 t2_2 t2_3 t5_0 t5_1 t5_2 t5_3 t5_4 t79 t80 t81)) t2_0 t2_1 t2_2 t2_3 t5_0 t5_1 t5_2 t5_3 t5_4 t79 t80 t81 := by kernel_rfl
theorem n88_1 (s88 : Tm → Option Tm) (n : Nat) (rec : Nat → SS → Option (RT.den F88.rs)) (k2 : Int → Int → Int → Int → Int → Int → Int → Int → (List Tm) → (List Tm) → Int → Int → Option Tm) (h2 : ∀ t2_0 t2_1 t2_2 t2_3 t5_0 t5_1 t5_2 t5_3 t5_4 t79 t80 t81, rec 2 (st88_2 t2_0 t2_1 t2_2 t2_3 t5_0 t5_1 t5_2 t5_3 t5_4 t79 t80 t81) = k2 t2_0 t2_1 t2_2 t2_3 t5_0 t5_1 t5_2 t5_3 t5_4 t79 t80 t81) (d : Nat) (t1 : Tm) (t2_0 : Int) (t2_1 : Int) (t2_2 : Int) (t2_3 : Int) (t3 : Int) (t4 : Int) : F88.labD (bodyOf Try.f88) tabR tyR true (cs88 s88 n) rec (d + 1) 1 (st88_1 t1 t2_0 t2_1 t2_2 t2_3 t3 t4) = c88_1 s88 n k2 t1 t2_0 t2_1 t2_2 t2_3 t3 t4 := by
  have e2 : ∀ t2_0 t2_1 t2_2 t2_3 t5_0 t5_1 t5_2 t5_3 t5_4 t79 t80 t81, F88.labX (bodyOf Try.f88) tabR tyR true (cs88 s88 n) rec d 2 (st88_2 t2_0 t2_1 t2_2 t2_3 t5_0 t5_1 t5_2 t5_3 t5_4 t79 t80 t81) = k2 t2_0 t2_1 t2_2 t2_3 t5_0 t5_1 t5_2 t5_3 t5_4 t79 t80 t81 := fun t2_0 t2_1 t2_2 t2_3 t5_0 t5_1 t5_2 t5_3 t5_4 t79 t80 t81 => (Fn.labX_loop _ _ _ _ _ _ _ _ _ _ (by kernel_rfl)).trans (h2 t2_0 t2_1 t2_2 t2_3 t5_0 t5_1 t5_2 t5_3 t5_4 t79 t80 t81)
  show F88.labD (bodyOf Try.f88) tabR tyR true (cs88 s88 n) rec (d + 1) 1 _ = _
  rw [Fn.labD_succ, p88_1]
  simp only [e2]
  rfl
theorem m88_2 (s88 : Tm → Option Tm) (n : Nat) : ∀ m : Nat, (∀ t2_0 t2_1 t2_2 t2_3 t5_0 t5_1 t5_2 t5_3 t5_4 t79 t80 t81, F88.labM (bodyOf Try.f88) tabR tyR true (cs88 s88 n) m 2 (st88_2 t2_0 t2_1 t2_2 t2_3 t5_0 t5_1 t5_2 t5_3 t5_4 t79 t80 t81) = l88_2 s88 n m t2_0 t2_1 t2_2 t2_3 t5_0 t5_1 t5_2 t5_3 t5_4 t79 t80 t81) := by
  intro m
  induction m with
  | zero => exact fun _ _ _ _ _ _ _ _ _ _ _ _ => rfl
  | succ m ih =>
    intro t2_0 t2_1 t2_2 t2_3 t5_0 t5_1 t5_2 t5_3 t5_4 t79 t80 t81
    have e2 : ∀ t2_0 t2_1 t2_2 t2_3 t5_0 t5_1 t5_2 t5_3 t5_4 t79 t80 t81, F88.labX (bodyOf Try.f88) tabR tyR true (cs88 s88 n) (F88.labM (bodyOf Try.f88) tabR tyR true (cs88 s88 n) m) 3 2 (st88_2 t2_0 t2_1 t2_2 t2_3 t5_0 t5_1 t5_2 t5_3 t5_4 t79 t80 t81) = (l88_2 s88 n m) t2_0 t2_1 t2_2 t2_3 t5_0 t5_1 t5_2 t5_3 t5_4 t79 t80 t81 := fun t2_0 t2_1 t2_2 t2_3 t5_0 t5_1 t5_2 t5_3 t5_4 t79 t80 t81 => (Fn.labX_loop _ _ _ _ _ _ _ _ _ _ (by kernel_rfl)).trans (ih t2_0 t2_1 t2_2 t2_3 t5_0 t5_1 t5_2 t5_3 t5_4 t79 t80 t81)
    rw [Fn.labM_succ]
    show F88.labD (bodyOf Try.f88) tabR tyR true (cs88 s88 n) (F88.labM (bodyOf Try.f88) tabR tyR true (cs88 s88 n) m) (3 + 1) 2 _ = _
    rw [Fn.labD_succ, p88_2]
    simp only [e2]
    rfl
theorem w88 (s88 : Tm → Option Tm) (n : Nat) (x : PTs.den F88.ps) : F88.body (bodyOf Try.f88) tabR tyR true (cs88 s88 n) (F88.labX (bodyOf Try.f88) tabR tyR true (cs88 s88 n) (F88.labM (bodyOf Try.f88) tabR tyR true (cs88 s88 n) n) F88.D) x = o88_0 s88 n (c88_1 s88 n (l88_2 s88 n n)) x.1 := by
  have e1 : ∀ t1 t2_0 t2_1 t2_2 t2_3 t3 t4, F88.labX (bodyOf Try.f88) tabR tyR true (cs88 s88 n) (F88.labM (bodyOf Try.f88) tabR tyR true (cs88 s88 n) n) 4 1 (st88_1 t1 t2_0 t2_1 t2_2 t2_3 t3 t4) = c88_1 s88 n (l88_2 s88 n n) t1 t2_0 t2_1 t2_2 t2_3 t3 t4 := fun t1 t2_0 t2_1 t2_2 t2_3 t3 t4 => (Fn.labX_step _ _ _ _ _ _ _ _ _ _ (by kernel_rfl)).trans (n88_1 s88 n (F88.labM (bodyOf Try.f88) tabR tyR true (cs88 s88 n) n) (l88_2 s88 n n) (m88_2 s88 n n) 3 t1 t2_0 t2_1 t2_2 t2_3 t3 t4)
  show F88.body (bodyOf Try.f88) tabR tyR true (cs88 s88 n) (F88.labX (bodyOf Try.f88) tabR tyR true (cs88 s88 n) (F88.labM (bodyOf Try.f88) tabR tyR true (cs88 s88 n) n) 4) x = _
  rw [p88_0]
  simp only [e1]
  try rfl
theorem call88 : Callable Try.prog 88 := callable_of Try.func88 (by kernel_rfl) (by kernel_rfl)
theorem okr88 : ∀ n : Nat, Cal.Ok Try.prog ⟨88, F88.ps, F88.rs, F88.fr, fun a => f88 n a.1⟩
  | 0 => ⟨by kernel_rfl, fun a r h => by cases h⟩
  | n + 1 => cal_of_fn F88 (code := bodyOf Try.f88) Try.func88 (by kernel_rfl) (by kernel_rfl) call88 htabR (cs := cs88 (f88 n) n) (fun c hc => by
      simp only [cs88, List.mem_cons, List.not_mem_nil, or_false] at hc
      rcases hc with rfl | rfl | rfl
      · exact (okr88 n)
      · exact ok102 n
      · exact ok127) (fun _ => mixed) (by kernel_rfl) (by kernel_rfl) (by decide) (fun x => ⟨n, w88 (f88 n) n x⟩)
theorem ok88 (n : Nat) : Cal.Ok Try.prog ⟨88, F88.ps, F88.rs, F88.fr, fun a => f88 n a.1⟩ := (okr88 n)
-- tranship/strip.Strip
def o30_0 (n : Nat) (a0 : Tm) : Option Tm :=
  (f87 n a0).bind fun x1 =>
  ifB (!x1) (
    some (Tm.mk (0 : Int) (0 : Int) (0 : Int) (0 : Int) ([] : List Tm))) (
    (f88 n a0).bind fun x2 =>
    some x2)
def f30 (n : Nat) (a0 : Tm) : Option Tm := o30_0 n a0
def an30 : An := .z
def F30 : Fn := { f := 30, a := an30, vars := [.cell 2 24], ps := [.st .tm], rs := [.st .tm], own := false, fr := false, nt := 9, D := 2, loops := [] }
def cs30 (n : Nat) : List Cal := [⟨87, [.st .tm], [.sc .bool], true, fun a => f87 n a.1⟩, ⟨88, [.st .tm], [.st .tm], false, fun a => f88 n a.1⟩]
theorem p30_0 (n : Nat) (lab : Nat → SS → Option (RT.den F30.rs)) (x : PTs.den F30.ps) : F30.body (bodyOf Try.f30) tabR tyR true (cs30 n) lab x = o30_0 n x.1 := by kernel_rfl
theorem w30 (n : Nat) (x : PTs.den F30.ps) : F30.body (bodyOf Try.f30) tabR tyR true (cs30 n) (F30.labX (bodyOf Try.f30) tabR tyR true (cs30 n) (F30.labM (bodyOf Try.f30) tabR tyR true (cs30 n) 0) F30.D) x = o30_0 n x.1 := by
  show F30.body (bodyOf Try.f30) tabR tyR true (cs30 n) (F30.labX (bodyOf Try.f30) tabR tyR true (cs30 n) (F30.labM (bodyOf Try.f30) tabR tyR true (cs30 n) 0) 2) x = _
  rw [p30_0]
theorem call30 : Callable Try.prog 30 := callable_of Try.func30 (by kernel_rfl) (by kernel_rfl)
theorem ok30 (n : Nat) : Cal.Ok Try.prog ⟨30, F30.ps, F30.rs, F30.fr, fun a => f30 n a.1⟩ :=
  cal_of_fn F30 (code := bodyOf Try.f30) Try.func30 (by kernel_rfl) (by kernel_rfl) call30 htabR (cs := cs30 n) (fun c hc => by
      simp only [cs30, List.mem_cons, List.not_mem_nil, or_false] at hc
      rcases hc with rfl | rfl
      · exact ok87 n
      · exact ok88 n) (fun _ => mixed) (by kernel_rfl) (by kernel_rfl) (by decide) (fun x => ⟨0, w30 n x⟩)
-- tranship/transhipref04.lift
def o91_0 (s91 : Tm → Int → Int → Option (Tm × Bool)) (n : Nat) (k2 : Int → Int → Tm → Int → Int → Int → Int → Int → Int → Int → Int → Bool → Option (Tm × Bool)) (a0 : Tm) (a1 : Int) (a2 : Int) : Option (Tm × Bool) :=
  ifB (decide (a0.kind = (2 : Int))) (
    k2 a1 a2 a0 (0 : Int) (0 : Int) (0 : Int) (0 : Int) a0.kind a0.i a0.j a0.n (decide (a2 ≤ a0.i))) (
    k2 a1 a2 a0 (0 : Int) (0 : Int) (0 : Int) (0 : Int) a0.kind a0.i a0.j a0.n false)
def o91_1 (s91 : Tm → Int → Int → Option (Tm × Bool)) (n : Nat) (k3 : Int → Int → Tm → Int → Int → Int → Int → Int → Int → Int → Int → (List Tm) → Int → Option (Tm × Bool)) (t1 : Int) (t2 : Int) (t3 : Tm) (t6_0 : Int) (t6_1 : Int) (t6_2 : Int) (t6_3 : Int) (t8_0 : Int) (t8_1 : Int) (t8_2 : Int) (t8_3 : Int) : Option (Tm × Bool) :=
  k3 t1 t2 t3 t6_0 t6_1 t6_2 t6_3 t8_0 t8_1 t8_2 t8_3 ([] : List Tm) (0 : Int)
def o91_2 (s91 : Tm → Int → Int → Option (Tm × Bool)) (n : Nat) (k1 : Int → Int → Tm → Int → Int → Int → Int → Int → Int → Int → Int → Option (Tm × Bool)) (t1 : Int) (t2 : Int) (t3 : Tm) (t6_0 : Int) (t6_1 : Int) (t6_2 : Int) (t6_3 : Int) (t8_0 : Int) (t8_1 : Int) (t8_2 : Int) (t8_3 : Int) (t31 : Bool) : Option (Tm × Bool) :=
  ifB t31 (
    ckI ((2147483647 : Int) - t3.i) <|
    ifB (decide (((2147483647 : Int) - t3.i) < t1)) (
      some ((Tm.mk (0 : Int) (0 : Int) (0 : Int) (0 : Int) ([] : List Tm)), false)) (
      ckI (t3.i + t1) <|
      k1 t1 t2 t3 t6_0 t6_1 t6_2 t6_3 t8_0 (t3.i + t1) t8_2 t8_3)) (
    k1 t1 t2 t3 t6_0 t6_1 t6_2 t6_3 t8_0 t8_1 t8_2 t8_3)
def o91_3 (s91 : Tm → Int → Int → Option (Tm × Bool)) (n : Nat) (k4 : Int → Int → Tm → Int → Int → Int → Int → Int → Int → Int → Int → (List Tm) → Int → Int → Option (Tm × Bool)) (t1 : Int) (t2 : Int) (t3 : Tm) (t6_0 : Int) (t6_1 : Int) (t6_2 : Int) (t6_3 : Int) (t8_0 : Int) (t8_1 : Int) (t8_2 : Int) (t8_3 : Int) (t9 : List Tm) (t10 : Int) : Option (Tm × Bool) :=
  ifB (decide (t10 < (t3.kids.length : Int))) (
    (f128 t3.kind t10).bind fun x1 =>
    ifB (decide ((4611686018427387904 : Int) < t2)) (
      k4 t1 t2 t3 t6_0 t6_1 t6_2 t6_3 t8_0 t8_1 t8_2 t8_3 t9 t10 (0 : Int)) (
      k4 t1 t2 t3 t6_0 t6_1 t6_2 t6_3 t8_0 t8_1 t8_2 t8_3 t9 t10 x1)) (
    some ((Tm.mk t8_0 t8_1 t8_2 t8_3 t9), true))
def o91_4 (s91 : Tm → Int → Int → Option (Tm × Bool)) (n : Nat) (k3 : Int → Int → Tm → Int → Int → Int → Int → Int → Int → Int → Int → (List Tm) → Int → Option (Tm × Bool)) (t1 : Int) (t2 : Int) (t3 : Tm) (t6_0 : Int) (t6_1 : Int) (t6_2 : Int) (t6_3 : Int) (t8_0 : Int) (t8_1 : Int) (t8_2 : Int) (t8_3 : Int) (t9 : List Tm) (t10 : Int) (t11 : Int) : Option (Tm × Bool) :=
  atI t3.kids t10 fun x2 =>
  ckI (t2 + t11) <|
  (s91 x2 t1 (t2 + t11)).bind fun x3 =>
  ifB (!x3.2) (
    some ((Tm.mk (0 : Int) (0 : Int) (0 : Int) (0 : Int) ([] : List Tm)), false)) (
    ckB (decide ((t9.length + [(Tm.mk x3.1.kind x3.1.i x3.1.j x3.1.n x3.1.kids)].length) * 56 ≤ 140737488355328) && decide (t9.length + [(Tm.mk x3.1.kind x3.1.i x3.1.j x3.1.n x3.1.kids)].length ≤ 9223372036854775807)) <|
    ckI (t10 + (1 : Int)) <|
    k3 t1 t2 t3 t6_0 t6_1 t6_2 t6_3 t8_0 t8_1 t8_2 t8_3 (t9 ++ [(Tm.mk x3.1.kind x3.1.i x3.1.j x3.1.n x3.1.kids)]) (t10 + (1 : Int)))
def c91_1 (s91 : Tm → Int → Int → Option (Tm × Bool)) (n : Nat) (k3 : Int → Int → Tm → Int → Int → Int → Int → Int → Int → Int → Int → (List Tm) → Int → Option (Tm × Bool)) (t1 : Int) (t2 : Int) (t3 : Tm) (t6_0 : Int) (t6_1 : Int) (t6_2 : Int) (t6_3 : Int) (t8_0 : Int) (t8_1 : Int) (t8_2 : Int) (t8_3 : Int) : Option (Tm × Bool) :=
  o91_1 s91 n k3 t1 t2 t3 t6_0 t6_1 t6_2 t6_3 t8_0 t8_1 t8_2 t8_3
def c91_2 (s91 : Tm → Int → Int → Option (Tm × Bool)) (n : Nat) (k3 : Int → Int → Tm → Int → Int → Int → Int → Int → Int → Int → Int → (List Tm) → Int → Option (Tm × Bool)) (t1 : Int) (t2 : Int) (t3 : Tm) (t6_0 : Int) (t6_1 : Int) (t6_2 : Int) (t6_3 : Int) (t8_0 : Int) (t8_1 : Int) (t8_2 : Int) (t8_3 : Int) (t31 : Bool) : Option (Tm × Bool) :=
  o91_2 s91 n (c91_1 s91 n k3) t1 t2 t3 t6_0 t6_1 t6_2 t6_3 t8_0 t8_1 t8_2 t8_3 t31
def c91_4 (s91 : Tm → Int → Int → Option (Tm × Bool)) (n : Nat) (k3 : Int → Int → Tm → Int → Int → Int → Int → Int → Int → Int → Int → (List Tm) → Int → Option (Tm × Bool)) (t1 : Int) (t2 : Int) (t3 : Tm) (t6_0 : Int) (t6_1 : Int) (t6_2 : Int) (t6_3 : Int) (t8_0 : Int) (t8_1 : Int) (t8_2 : Int) (t8_3 : Int) (t9 : List Tm) (t10 : Int) (t11 : Int) : Option (Tm × Bool) :=
  o91_4 s91 n k3 t1 t2 t3 t6_0 t6_1 t6_2 t6_3 t8_0 t8_1 t8_2 t8_3 t9 t10 t11
def l91_3 (s91 : Tm → Int → Int → Option (Tm × Bool)) (n : Nat) : Nat → Int → Int → Tm → Int → Int → Int → Int → Int → Int → Int → Int → (List Tm) → Int → Option (Tm × Bool)
  | 0, _, _, _, _, _, _, _, _, _, _, _, _, _ => none
  | m + 1, t1, t2, t3, t6_0, t6_1, t6_2, t6_3, t8_0, t8_1, t8_2, t8_3, t9, t10 => o91_3 s91 n (c91_4 s91 n (l91_3 s91 n m)) t1 t2 t3 t6_0 t6_1 t6_2 t6_3 t8_0 t8_1 t8_2 t8_3 t9 t10
def f91 : Nat → Tm → Int → Int → Option (Tm × Bool)
  | 0, _, _, _ => none
  | n + 1, a0, a1, a2 => o91_0 (f91 n) n (c91_2 (f91 n) n (l91_3 (f91 n) n n)) a0 a1 a2
def an91 : An := (.n none [] 0 .z (.n none [] 0 .z (.n (some 1) [(1, .one .c), (2, .one .c), (3, .ps 0 .tm false), (6, .p 1 [.c, .c, .c, .c, .k]), (8, .p 2 [.c, .c, .c, .c, .k])] 3 (.n (some 2) [(1, .one .c), (2, .one .c), (3, .ps 0 .tm false), (6, .p 1 [.c, .c, .c, .c, .k]), (8, .p 2 [.c, .c, .c, .c, .k]), (31, .one .c)] 3 .z .z) (.n none [] 0 .z (.n none [] 0 (.n none [] 0 .z (.n none [] 0 (.n (some 3) [(1, .one .c), (2, .one .c), (3, .ps 0 .tm false), (6, .p 1 [.c, .c, .c, .c, .k]), (8, .p 2 [.c, .c, .c, .c, .k]), (9, .one (.r 3 24 .tm true)), (10, .one .c)] 4 (.n none [] 0 .z (.n none [] 0 (.n none [] 0 (.n none [] 0 .z (.n (some 4) [(1, .one .c), (2, .one .c), (3, .ps 0 .tm false), (6, .p 1 [.c, .c, .c, .c, .k]), (8, .p 2 [.c, .c, .c, .c, .k]), (9, .one (.r 3 24 .tm true)), (10, .one .c), (11, .one .c)] 4 .z .z)) .z) .z)) .z) .z)) .z)))))
def F91 : Fn := { f := 91, a := an91, vars := [.cell 6 24, .tmp 7], ps := [.st .tm, .sc .int, .sc .int], rs := [.st .tm, .sc .bool], own := false, fr := true, nt := 79, D := 6, loops := [3] }
def cs91 (s91 : Tm → Int → Int → Option (Tm × Bool)) (n : Nat) : List Cal := [⟨91, [.st .tm, .sc .int, .sc .int], [.st .tm, .sc .bool], true, fun a => s91 a.1 a.2.1 a.2.2.1⟩, ⟨128, [.sc .int, .sc .int], [.sc .int], true, fun a => f128 a.1 a.2.1⟩]
def st91_1 (t1 : Int) (t2 : Int) (t3 : Tm) (t6_0 : Int) (t6_1 : Int) (t6_2 : Int) (t6_3 : Int) (t8_0 : Int) (t8_1 : Int) (t8_2 : Int) (t8_3 : Int) : SS := ⟨[(1, .v (.one (.c (.int t1) true))), (2, .v (.one (.c (.int t2) true))), (3, .v (.one (.ptr 0 0))), (6, .v (.one (.ptr 1 0))), (8, .v (.one (.ptr 2 0)))], [(0, some (.bst .tm t3 false)), (1, some (.box [.c (.int t6_0) true, .c (.int t6_1) true, .c (.int t6_2) true, .c (.int t6_3) true, .nils])), (2, some (.box [.c (.int t8_0) true, .c (.int t8_1) true, .c (.int t8_2) true, .c (.int t8_3) true, .nils]))], 3⟩
def st91_2 (t1 : Int) (t2 : Int) (t3 : Tm) (t6_0 : Int) (t6_1 : Int) (t6_2 : Int) (t6_3 : Int) (t8_0 : Int) (t8_1 : Int) (t8_2 : Int) (t8_3 : Int) (t31 : Bool) : SS := ⟨[(1, .v (.one (.c (.int t1) true))), (2, .v (.one (.c (.int t2) true))), (3, .v (.one (.ptr 0 0))), (6, .v (.one (.ptr 1 0))), (8, .v (.one (.ptr 2 0))), (31, .v (.one (.c (.bool t31) true)))], [(0, some (.bst .tm t3 false)), (1, some (.box [.c (.int t6_0) true, .c (.int t6_1) true, .c (.int t6_2) true, .c (.int t6_3) true, .nils])), (2, some (.box [.c (.int t8_0) true, .c (.int t8_1) true, .c (.int t8_2) true, .c (.int t8_3) true, .nils]))], 3⟩
def st91_3 (t1 : Int) (t2 : Int) (t3 : Tm) (t6_0 : Int) (t6_1 : Int) (t6_2 : Int) (t6_3 : Int) (t8_0 : Int) (t8_1 : Int) (t8_2 : Int) (t8_3 : Int) (t9 : List Tm) (t10 : Int) : SS := ⟨[(1, .v (.one (.c (.int t1) true))), (2, .v (.one (.c (.int t2) true))), (3, .v (.one (.ptr 0 0))), (6, .v (.one (.ptr 1 0))), (8, .v (.one (.ptr 2 0))), (9, .v (.one (.arr 3))), (10, .v (.one (.c (.int t10) true)))], [(0, some (.bst .tm t3 false)), (1, some (.box [.c (.int t6_0) true, .c (.int t6_1) true, .c (.int t6_2) true, .c (.int t6_3) true, .nils])), (2, some (.box [.c (.int t8_0) true, .c (.int t8_1) true, .c (.int t8_2) true, .c (.int t8_3) true, .nils])), (3, some (.row 24 .tm t9 true))], 4⟩
def st91_4 (t1 : Int) (t2 : Int) (t3 : Tm) (t6_0 : Int) (t6_1 : Int) (t6_2 : Int) (t6_3 : Int) (t8_0 : Int) (t8_1 : Int) (t8_2 : Int) (t8_3 : Int) (t9 : List Tm) (t10 : Int) (t11 : Int) : SS := ⟨[(1, .v (.one (.c (.int t1) true))), (2, .v (.one (.c (.int t2) true))), (3, .v (.one (.ptr 0 0))), (6, .v (.one (.ptr 1 0))), (8, .v (.one (.ptr 2 0))), (9, .v (.one (.arr 3))), (10, .v (.one (.c (.int t10) true))), (11, .v (.one (.c (.int t11) true)))], [(0, some (.bst .tm t3 false)), (1, some (.box [.c (.int t6_0) true, .c (.int t6_1) true, .c (.int t6_2) true, .c (.int t6_3) true, .nils])), (2, some (.box [.c (.int t8_0) true, .c (.int t8_1) true, .c (.int t8_2) true, .c (.int t8_3) true, .nils])), (3, some (.row 24 .tm t9 true))], 4⟩
theorem p91_0 (s91 : Tm → Int → Int → Option (Tm × Bool)) (n : Nat) (lab : Nat → SS → Option (RT.den F91.rs)) (x : PTs.den F91.ps) : F91.body (bodyOf Try.f91) tabR tyR true (cs91 s91 n) lab x = o91_0 s91 n (fun t1 t2 t3 t6_0 t6_1 t6_2 t6_3 t8_0 t8_1 t8_2 t8_3 t31 => lab 2 (st91_2 t1 t2 t3 t6_0 t6_1 t6_2 t6_3 t8_0 t8_1 t8_2 t8_3 t31)) x.1 x.2.1 x.2.2.1 := by kernel_rfl
theorem p91_1 (s91 : Tm → Int → Int → Option (Tm × Bool)) (n : Nat) (lab : Nat → SS → Option (RT.den F91.rs)) (t1 : Int) (t2 : Int) (t3 : Tm) (t6_0 : Int) (t6_1 : Int) (t6_2 : Int) (t6_3 : Int) (t8_0 : Int) (t8_1 : Int) (t8_2 : Int) (t8_3 : Int) : F91.at (bodyOf Try.f91) tabR tyR true (cs91 s91 n) lab 1 (st91_1 t1 t2 t3 t6_0 t6_1 t6_2 t6_3 t8_0 t8_1 t8_2 t8_3) = o91_1 s91 n (fun t1 t2 t3 t6_0 t6_1 t6_2 t6_3 t8_0 t8_1 t8_2 t8_3 t9 t10 => lab 3 (st91_3 t1 t2 t3 t6_0 t6_1 t6_2 t6_3 t8_0 t8_1 t8_2 t8_3 t9 t10)) t1 t2 t3 t6_0 t6_1 t6_2 t6_3 t8_0 t8_1 t8_2 t8_3 := by kernel_rfl
theorem p91_2 (s91 : Tm → Int → Int → Option (Tm × Bool)) (n : Nat) (lab : Nat → SS → Option (RT.den F91.rs)) (t1 : Int) (t2 : Int) (t3 : Tm) (t6_0 : Int) (t6_1 : Int) (t6_2 : Int) (t6_3 : Int) (t8_0 : Int) (t8_1 : Int) (t8_2 : Int) (t8_3 : Int) (t31 : Bool) : F91.at (bodyOf Try.f91) tabR tyR true (cs91 s91 n) lab 2 (st91_2 t1 t2 t3 t6_0 t6_1 t6_2 t6_3 t8_0 t8_1 t8_2 t8_3 t31) = o91_2 s91 n (fun t1 t2 t3 t6_0 t6_1 t6_2 t6_3 t8_0 t8_1 t8_2 t8_3 => lab 1 (st91_1 t1 t2 t3 t6_0 t6_1 t6_2 t6_3 t8_0 t8_1 t8_2 t8_3)) t1 t2 t3 t6_0 t6_1 t6_2 t6_3 t8_0 t8_1 t8_2 t8_3 t31 := by kernel_rfl
theorem p91_3 (s91 : Tm → Int → Int → Option (Tm × Bool)) (n : Nat) (lab : Nat → SS → Option (RT.den F91.rs)) (t1 : Int) (t2 : Int) (t3 : Tm) (t6_0 : Int) (t6_1 : Int) (t6_2 : Int) (t6_3 : Int) (t8_0 : Int) (t8_1 : Int) (t8_2 : Int) (t8_3 : Int) (t9 : List Tm) (t10 : Int) : F91.at (bodyOf Try.f91) tabR tyR true (cs91 s91 n) lab 3 (st91_3 t1 t2 t3 t6_0 t6_1 t6_2 t6_3 t8_0 t8_1 t8_2 t8_3 t9 t10) = o91_3 s91 n (fun t1 t2 t3 t6_0 t6_1 t6_2 t6_3 t8_0 t8_1 t8_2 t8_3 t9 t10 t11 => lab 4 (st91_4 t1 t2 t3 t6_0 t6_1 t6_2 t6_3 t8_0 t8_1 t8_2 t8_3 t9 t10 t11)) t1 t2 t3 t6_0 t6_1 t6_2 t6_3 t8_0 t8_1 t8_2 t8_3 t9 t10 := by kernel_rfl
theorem p91_4 (s91 : Tm → Int → Int → Option (Tm × Bool)) (n : Nat) (lab : Nat → SS → Option (RT.den F91.rs)) (t1 : Int) (t2 : Int) (t3 : Tm) (t6_0 : Int) (t6_1 : Int) (t6_2 : Int) (t6_3 : Int) (t8_0 : Int) (t8_1 : Int) (t8_2 : Int) (t8_3 : Int) (t9 : List Tm) (t10 : Int) (t11 : Int) : F91.at (bodyOf Try.f91) tabR tyR true (cs91 s91 n) lab 4 (st91_4 t1 t2 t3 t6_0 t6_1 t6_2 t6_3 t8_0 t8_1 t8_2 t8_3 t9 t10 t11) = o91_4 s91 n (fun t1 t2 t3 t6_0 t6_1 t6_2 t6_3 t8_0 t8_1 t8_2 t8_3 t9 t10 => lab 3 (st91_3 t1 t2 t3 t6_0 t6_1 t6_2 t6_3 t8_0 t8_1 t8_2 t8_3 t9 t10)) t1 t2 t3 t6_0 t6_1 t6_2 t6_3 t8_0 t8_1 t8_2 t8_3 t9 t10 t11 := by kernel_rfl
theorem n91_1 (s91 : Tm → Int → Int → Option (Tm × Bool)) (n : Nat) (rec : Nat → SS → Option (RT.den F91.rs)) (k3 : Int → Int → Tm → Int → Int → Int → Int → Int → Int → Int → Int → (List Tm) → Int → Option (Tm × Bool)) (h3 : ∀ t1 t2 t3 t6_0 t6_1 t6_2 t6_3 t8_0 t8_1 t8_2 t8_3 t9 t10, rec 3 (st91_3 t1 t2 t3 t6_0 t6_1 t6_2 t6_3 t8_0 t8_1 t8_2 t8_3 t9 t10) = k3 t1 t2 t3 t6_0 t6_1 t6_2 t6_3 t8_0 t8_1 t8_2 t8_3 t9 t10) (d : Nat) (t1 : Int) (t2 : Int) (t3 : Tm) (t6_0 : Int) (t6_1 : Int) (t6_2 : Int) (t6_3 : Int) (t8_0 : Int) (t8_1 : Int) (t8_2 : Int) (t8_3 : Int) : F91.labD (bodyOf Try.f91) tabR tyR true (cs91 s91 n) rec (d + 1) 1 (st91_1 t1 t2 t3 t6_0 t6_1 t6_2 t6_3 t8_0 t8_1 t8_2 t8_3) = c91_1 s91 n k3 t1 t2 t3 t6_0 t6_1 t6_2 t6_3 t8_0 t8_1 t8_2 t8_3 := by
  have e3 : ∀ t1 t2 t3 t6_0 t6_1 t6_2 t6_3 t8_0 t8_1 t8_2 t8_3 t9 t10, F91.labX (bodyOf Try.f91) tabR tyR true (cs91 s91 n) rec d 3 (st91_3 t1 t2 t3 t6_0 t6_1 t6_2 t6_3 t8_0 t8_1 t8_2 t8_3 t9 t10) = k3 t1 t2 t3 t6_0 t6_1 t6_2 t6_3 t8_0 t8_1 t8_2 t8_3 t9 t10 := fun t1 t2 t3 t6_0 t6_1 t6_2 t6_3 t8_0 t8_1 t8_2 t8_3 t9 t10 => (Fn.labX_loop _ _ _ _ _ _ _ _ _ _ (by kernel_rfl)).trans (h3 t1 t2 t3 t6_0 t6_1 t6_2 t6_3 t8_0 t8_1 t8_2 t8_3 t9 t10)
  show F91.labD (bodyOf Try.f91) tabR tyR true (cs91 s91 n) rec (d + 1) 1 _ = _
  rw [Fn.labD_succ, p91_1]
  simp only [e3]
  rfl
theorem n91_2 (s91 : Tm → Int → Int → Option (Tm × Bool)) (n : Nat) (rec : Nat → SS → Option (RT.den F91.rs)) (k3 : Int → Int → Tm → Int → Int → Int → Int → Int → Int → Int → Int → (List Tm) → Int → Option (Tm × Bool)) (h3 : ∀ t1 t2 t3 t6_0 t6_1 t6_2 t6_3 t8_0 t8_1 t8_2 t8_3 t9 t10, rec 3 (st91_3 t1 t2 t3 t6_0 t6_1 t6_2 t6_3 t8_0 t8_1 t8_2 t8_3 t9 t10) = k3 t1 t2 t3 t6_0 t6_1 t6_2 t6_3 t8_0 t8_1 t8_2 t8_3 t9 t10) (d : Nat) (t1 : Int) (t2 : Int) (t3 : Tm) (t6_0 : Int) (t6_1 : Int) (t6_2 : Int) (t6_3 : Int) (t8_0 : Int) (t8_1 : Int) (t8_2 : Int) (t8_3 : Int) (t31 : Bool) : F91.labD (bodyOf Try.f91) tabR tyR true (cs91 s91 n) rec (d + 2) 2 (st91_2 t1 t2 t3 t6_0 t6_1 t6_2 t6_3 t8_0 t8_1 t8_2 t8_3 t31) = c91_2 s91 n k3 t1 t2 t3 t6_0 t6_1 t6_2 t6_3 t8_0 t8_1 t8_2 t8_3 t31 := by
  have e1 : ∀ t1 t2 t3 t6_0 t6_1 t6_2 t6_3 t8_0 t8_1 t8_2 t8_3, F91.labX (bodyOf Try.f91) tabR tyR true (cs91 s91 n) rec (d + 1) 1 (st91_1 t1 t2 t3 t6_0 t6_1 t6_2 t6_3 t8_0 t8_1 t8_2 t8_3) = c91_1 s91 n k3 t1 t2 t3 t6_0 t6_1 t6_2 t6_3 t8_0 t8_1 t8_2 t8_3 := fun t1 t2 t3 t6_0 t6_1 t6_2 t6_3 t8_0 t8_1 t8_2 t8_3 => (Fn.labX_step _ _ _ _ _ _ _ _ _ _ (by kernel_rfl)).trans (n91_1 s91 n rec k3 h3 d t1 t2 t3 t6_0 t6_1 t6_2 t6_3 t8_0 t8_1 t8_2 t8_3)
  show F91.labD (bodyOf Try.f91) tabR tyR true (cs91 s91 n) rec ((d + 1) + 1) 2 _ = _
  rw [Fn.labD_succ, p91_2]
  simp only [e1]
  rfl
theorem n91_4 (s91 : Tm → Int → Int → Option (Tm × Bool)) (n : Nat) (rec : Nat → SS → Option (RT.den F91.rs)) (k3 : Int → Int → Tm → Int → Int → Int → Int → Int → Int → Int → Int → (List Tm) → Int → Option (Tm × Bool)) (h3 : ∀ t1 t2 t3 t6_0 t6_1 t6_2 t6_3 t8_0 t8_1 t8_2 t8_3 t9 t10, rec 3 (st91_3 t1 t2 t3 t6_0 t6_1 t6_2 t6_3 t8_0 t8_1 t8_2 t8_3 t9 t10) = k3 t1 t2 t3 t6_0 t6_1 t6_2 t6_3 t8_0 t8_1 t8_2 t8_3 t9 t10) (d : Nat) (t1 : Int) (t2 : Int) (t3 : Tm) (t6_0 : Int) (t6_1 : Int) (t6_2 : Int) (t6_3 : Int) (t8_0 : Int) (t8_1 : Int) (t8_2 : Int) (t8_3 : Int) (t9 : List Tm) (t10 : Int) (t11 : Int) : F91.labD (bodyOf Try.f91) tabR tyR true (cs91 s91 n) rec (d + 1) 4 (st91_4 t1 t2 t3 t6_0 t6_1 t6_2 t6_3 t8_0 t8_1 t8_2 t8_3 t9 t10 t11) = c91_4 s91 n k3 t1 t2 t3 t6_0 t6_1 t6_2 t6_3 t8_0 t8_1 t8_2 t8_3 t9 t10 t11 := by
  have e3 : ∀ t1 t2 t3 t6_0 t6_1 t6_2 t6_3 t8_0 t8_1 t8_2 t8_3 t9 t10, F91.labX (bodyOf Try.f91) tabR tyR true (cs91 s91 n) rec d 3 (st91_3 t1 t2 t3 t6_0 t6_1 t6_2 t6_3 t8_0 t8_1 t8_2 t8_3 t9 t10) = k3 t1 t2 t3 t6_0 t6_1 t6_2 t6_3 t8_0 t8_1 t8_2 t8_3 t9 t10 := fun t1 t2 t3 t6_0 t6_1 t6_2 t6_3 t8_0 t8_1 t8_2 t8_3 t9 t10 => (Fn.labX_loop _ _ _ _ _ _ _ _ _ _ (by kernel_rfl)).trans (h3 t1 t2 t3 t6_0 t6_1 t6_2 t6_3 t8_0 t8_1 t8_2 t8_3 t9 t10)
  show F91.labD (bodyOf Try.f91) tabR tyR true (cs91 s91 n) rec (d + 1) 4 _ = _
  rw [Fn.labD_succ, p91_4]
  simp only [e3]
  rfl
theorem m91_3 (s91 : Tm → Int → Int → Option (Tm × Bool)) (n : Nat) : ∀ m : Nat, (∀ t1 t2 t3 t6_0 t6_1 t6_2 t6_3 t8_0 t8_1 t8_2 t8_3 t9 t10, F91.labM (bodyOf Try.f91) tabR tyR true (cs91 s91 n) m 3 (st91_3 t1 t2 t3 t6_0 t6_1 t6_2 t6_3 t8_0 t8_1 t8_2 t8_3 t9 t10) = l91_3 s91 n m t1 t2 t3 t6_0 t6_1 t6_2 t6_3 t8_0 t8_1 t8_2 t8_3 t9 t10) := by
  intro m
  induction m with
  | zero => exact fun _ _ _ _ _ _ _ _ _ _ _ _ _ => rfl
  | succ m ih =>
    intro t1 t2 t3 t6_0 t6_1 t6_2 t6_3 t8_0 t8_1 t8_2 t8_3 t9 t10
    have e4 : ∀ t1 t2 t3 t6_0 t6_1 t6_2 t6_3 t8_0 t8_1 t8_2 t8_3 t9 t10 t11, F91.labX (bodyOf Try.f91) tabR tyR true (cs91 s91 n) (F91.labM (bodyOf Try.f91) tabR tyR true (cs91 s91 n) m) 5 4 (st91_4 t1 t2 t3 t6_0 t6_1 t6_2 t6_3 t8_0 t8_1 t8_2 t8_3 t9 t10 t11) = c91_4 s91 n (l91_3 s91 n m) t1 t2 t3 t6_0 t6_1 t6_2 t6_3 t8_0 t8_1 t8_2 t8_3 t9 t10 t11 := fun t1 t2 t3 t6_0 t6_1 t6_2 t6_3 t8_0 t8_1 t8_2 t8_3 t9 t10 t11 => (Fn.labX_step _ _ _ _ _ _ _ _ _ _ (by kernel_rfl)).trans (n91_4 s91 n (F91.labM (bodyOf Try.f91) tabR tyR true (cs91 s91 n) m) (l91_3 s91 n m) ih 4 t1 t2 t3 t6_0 t6_1 t6_2 t6_3 t8_0 t8_1 t8_2 t8_3 t9 t10 t11)
    rw [Fn.labM_succ]
    show F91.labD (bodyOf Try.f91) tabR tyR true (cs91 s91 n) (F91.labM (bodyOf Try.f91) tabR tyR true (cs91 s91 n) m) (5 + 1) 3 _ = _
    rw [Fn.labD_succ, p91_3]
    simp only [e4]
    rfl
theorem w91 (s91 : Tm → Int → Int → Option (Tm × Bool)) (n : Nat) (x : PTs.den F91.ps) : F91.body (bodyOf Try.f91) tabR tyR true (cs91 s91 n) (F91.labX (bodyOf Try.f91) tabR tyR true (cs91 s91 n) (F91.labM (bodyOf Try.f91) tabR tyR true (cs91 s91 n) n) F91.D) x = o91_0 s91 n (c91_2 s91 n (l91_3 s91 n n)) x.1 x.2.1 x.2.2.1 := by
  have e2 : ∀ t1 t2 t3 t6_0 t6_1 t6_2 t6_3 t8_0 t8_1 t8_2 t8_3 t31, F91.labX (bodyOf Try.f91) tabR tyR true (cs91 s91 n) (F91.labM (bodyOf Try.f91) tabR tyR true (cs91 s91 n) n) 6 2 (st91_2 t1 t2 t3 t6_0 t6_1 t6_2 t6_3 t8_0 t8_1 t8_2 t8_3 t31) = c91_2 s91 n (l91_3 s91 n n) t1 t2 t3 t6_0 t6_1 t6_2 t6_3 t8_0 t8_1 t8_2 t8_3 t31 := fun t1 t2 t3 t6_0 t6_1 t6_2 t6_3 t8_0 t8_1 t8_2 t8_3 t31 => (Fn.labX_step _ _ _ _ _ _ _ _ _ _ (by kernel_rfl)).trans (n91_2 s91 n (F91.labM (bodyOf Try.f91) tabR tyR true (cs91 s91 n) n) (l91_3 s91 n n) (m91_3 s91 n n) 4 t1 t2 t3 t6_0 t6_1 t6_2 t6_3 t8_0 t8_1 t8_2 t8_3 t31)
  show F91.body (bodyOf Try.f91) tabR tyR true (cs91 s91 n) (F91.labX (bodyOf Try.f91) tabR tyR true (cs91 s91 n) (F91.labM (bodyOf Try.f91) tabR tyR true (cs91 s91 n) n) 6) x = _
  rw [p91_0]
  simp only [e2]
  try rfl
theorem call91 : Callable Try.prog 91 := callable_of Try.func91 (by kernel_rfl) (by kernel_rfl)
theorem okr91 : ∀ n : Nat, Cal.Ok Try.prog ⟨91, F91.ps, F91.rs, F91.fr, fun a => f91 n a.1 a.2.1 a.2.2.1⟩
  | 0 => ⟨by kernel_rfl, fun a r h => by cases h⟩
  | n + 1 => cal_of_fn F91 (code := bodyOf Try.f91) Try.func91 (by kernel_rfl) (by kernel_rfl) call91 htabR (cs := cs91 (f91 n) n) (fun c hc => by
      simp only [cs91, List.mem_cons, List.not_mem_nil, or_false] at hc
      rcases hc with rfl | rfl
      · exact (okr91 n)
      · exact ok128) (fun _ => mixed) (by kernel_rfl) (by kernel_rfl) (by decide) (fun x => ⟨n, w91 (f91 n) n x⟩)
theorem ok91 (n : Nat) : Cal.Ok Try.prog ⟨91, F91.ps, F91.rs, F91.fr, fun a => f91 n a.1 a.2.1 a.2.2.1⟩ := (okr91 n)
-- tranship/transhipref04.Lift
def o32_0 (n : Nat) (k1 : Int → Int → Tm → Int → Int → Int → Int → Option Tm) (a0 : Tm) (a1 : Int) (a2 : Int) : Option Tm :=
  (f90 n a0).bind fun x1 =>
  ifB (!x1) (
    some (Tm.mk (0 : Int) (0 : Int) (0 : Int) (0 : Int) ([] : List Tm))) (
    ifB (decide (a1 < (0 : Int))) (
      some (Tm.mk (0 : Int) (0 : Int) (0 : Int) (0 : Int) ([] : List Tm))) (
      ifB (decide (a2 < (0 : Int))) (
        some (Tm.mk (0 : Int) (0 : Int) (0 : Int) (0 : Int) ([] : List Tm))) (
        k1 a1 a2 a0 (0 : Int) (0 : Int) (0 : Int) (0 : Int))))
def o32_1 (n : Nat) (t1 : Int) (t2 : Int) (t3 : Tm) (t6_0 : Int) (t6_1 : Int) (t6_2 : Int) (t6_3 : Int) : Option Tm :=
  (f91 n t3 t1 t2).bind fun x2 =>
  ifB (!x2.2) (
    some (Tm.mk (0 : Int) (0 : Int) (0 : Int) (0 : Int) ([] : List Tm))) (
    some x2.1)
def c32_1 (n : Nat) (t1 : Int) (t2 : Int) (t3 : Tm) (t6_0 : Int) (t6_1 : Int) (t6_2 : Int) (t6_3 : Int) : Option Tm :=
  o32_1 n t1 t2 t3 t6_0 t6_1 t6_2 t6_3
def f32 (n : Nat) (a0 : Tm) (a1 : Int) (a2 : Int) : Option Tm := o32_0 n (c32_1 n) a0 a1 a2
def an32 : An := (.n none [] 0 .z (.n (some 1) [(1, .one .c), (2, .one .c), (3, .ps 0 .tm false), (6, .p 1 [.c, .c, .c, .c, .k])] 2 .z .z))
def F32 : Fn := { f := 32, a := an32, vars := [.cell 6 24], ps := [.st .tm, .sc .int, .sc .int], rs := [.st .tm], own := false, fr := true, nt := 32, D := 3, loops := [] }
def cs32 (n : Nat) : List Cal := [⟨90, [.st .tm], [.sc .bool], true, fun a => f90 n a.1⟩, ⟨91, [.st .tm, .sc .int, .sc .int], [.st .tm, .sc .bool], true, fun a => f91 n a.1 a.2.1 a.2.2.1⟩]
def st32_1 (t1 : Int) (t2 : Int) (t3 : Tm) (t6_0 : Int) (t6_1 : Int) (t6_2 : Int) (t6_3 : Int) : SS := ⟨[(1, .v (.one (.c (.int t1) true))), (2, .v (.one (.c (.int t2) true))), (3, .v (.one (.ptr 0 0))), (6, .v (.one (.ptr 1 0)))], [(0, some (.bst .tm t3 false)), (1, some (.box [.c (.int t6_0) true, .c (.int t6_1) true, .c (.int t6_2) true, .c (.int t6_3) true, .nils]))], 2⟩
theorem p32_0 (n : Nat) (lab : Nat → SS → Option (RT.den F32.rs)) (x : PTs.den F32.ps) : F32.body (bodyOf Try.f32) tabR tyR true (cs32 n) lab x = o32_0 n (fun t1 t2 t3 t6_0 t6_1 t6_2 t6_3 => lab 1 (st32_1 t1 t2 t3 t6_0 t6_1 t6_2 t6_3)) x.1 x.2.1 x.2.2.1 := by kernel_rfl
theorem p32_1 (n : Nat) (lab : Nat → SS → Option (RT.den F32.rs)) (t1 : Int) (t2 : Int) (t3 : Tm) (t6_0 : Int) (t6_1 : Int) (t6_2 : Int) (t6_3 : Int) : F32.at (bodyOf Try.f32) tabR tyR true (cs32 n) lab 1 (st32_1 t1 t2 t3 t6_0 t6_1 t6_2 t6_3) = o32_1 n t1 t2 t3 t6_0 t6_1 t6_2 t6_3 := by kernel_rfl
theorem n32_1 (n : Nat) (rec : Nat → SS → Option (RT.den F32.rs)) (d : Nat) (t1 : Int) (t2 : Int) (t3 : Tm) (t6_0 : Int) (t6_1 : Int) (t6_2 : Int) (t6_3 : Int) : F32.labD (bodyOf Try.f32) tabR tyR true (cs32 n) rec (d + 1) 1 (st32_1 t1 t2 t3 t6_0 t6_1 t6_2 t6_3) = c32_1 n t1 t2 t3 t6_0 t6_1 t6_2 t6_3 := by
  show F32.labD (bodyOf Try.f32) tabR tyR true (cs32 n) rec (d + 1) 1 _ = _
  rw [Fn.labD_succ, p32_1]
  rfl
theorem w32 (n : Nat) (x : PTs.den F32.ps) : F32.body (bodyOf Try.f32) tabR tyR true (cs32 n) (F32.labX (bodyOf Try.f32) tabR tyR true (cs32 n) (F32.labM (bodyOf Try.f32) tabR tyR true (cs32 n) 0) F32.D) x = o32_0 n (c32_1 n) x.1 x.2.1 x.2.2.1 := by
  have e1 : ∀ t1 t2 t3 t6_0 t6_1 t6_2 t6_3, F32.labX (bodyOf Try.f32) tabR tyR true (cs32 n) (F32.labM (bodyOf Try.f32) tabR tyR true (cs32 n) 0) 3 1 (st32_1 t1 t2 t3 t6_0 t6_1 t6_2 t6_3) = c32_1 n t1 t2 t3 t6_0 t6_1 t6_2 t6_3 := fun t1 t2 t3 t6_0 t6_1 t6_2 t6_3 => (Fn.labX_step _ _ _ _ _ _ _ _ _ _ (by kernel_rfl)).trans (n32_1 n (F32.labM (bodyOf Try.f32) tabR tyR true (cs32 n) 0) 2 t1 t2 t3 t6_0 t6_1 t6_2 t6_3)
  show F32.body (bodyOf Try.f32) tabR tyR true (cs32 n) (F32.labX (bodyOf Try.f32) tabR tyR true (cs32 n) (F32.labM (bodyOf Try.f32) tabR tyR true (cs32 n) 0) 3) x = _
  rw [p32_0]
  simp only [e1]
  try rfl
theorem call32 : Callable Try.prog 32 := callable_of Try.func32 (by kernel_rfl) (by kernel_rfl)
theorem ok32 (n : Nat) : Cal.Ok Try.prog ⟨32, F32.ps, F32.rs, F32.fr, fun a => f32 n a.1 a.2.1 a.2.2.1⟩ :=
  cal_of_fn F32 (code := bodyOf Try.f32) Try.func32 (by kernel_rfl) (by kernel_rfl) call32 htabR (cs := cs32 n) (fun c hc => by
      simp only [cs32, List.mem_cons, List.not_mem_nil, or_false] at hc
      rcases hc with rfl | rfl
      · exact ok90 n
      · exact ok91 n) (fun _ => mixed) (by kernel_rfl) (by kernel_rfl) (by decide) (fun x => ⟨0, w32 n x⟩)
-- tranship/lift.Lift
def o33_0 (n : Nat) (k1 : Int → Int → Tm → Int → Int → Int → Int → Option Tm) (a0 : Tm) (a1 : Int) (a2 : Int) : Option Tm :=
  ifB (decide (a1 < (0 : Int))) (
    some (Tm.mk (0 : Int) (0 : Int) (0 : Int) (0 : Int) ([] : List Tm))) (
    ifB (decide (a2 < (0 : Int))) (
      some (Tm.mk (0 : Int) (0 : Int) (0 : Int) (0 : Int) ([] : List Tm))) (
      (f87 n a0).bind fun x1 =>
      ifB (!x1) (
        some (Tm.mk (0 : Int) (0 : Int) (0 : Int) (0 : Int) ([] : List Tm))) (
        k1 a1 a2 a0 (0 : Int) (0 : Int) (0 : Int) (0 : Int))))
def o33_1 (n : Nat) (t1 : Int) (t2 : Int) (t3 : Tm) (t6_0 : Int) (t6_1 : Int) (t6_2 : Int) (t6_3 : Int) : Option Tm :=
  (f92 n t3 t1 (min t2 (2147483648 : Int))).bind fun x2 =>
  ifB (!x2.2) (
    some (Tm.mk (0 : Int) (0 : Int) (0 : Int) (0 : Int) ([] : List Tm))) (
    some x2.1)
def c33_1 (n : Nat) (t1 : Int) (t2 : Int) (t3 : Tm) (t6_0 : Int) (t6_1 : Int) (t6_2 : Int) (t6_3 : Int) : Option Tm :=
  o33_1 n t1 t2 t3 t6_0 t6_1 t6_2 t6_3
def f33 (n : Nat) (a0 : Tm) (a1 : Int) (a2 : Int) : Option Tm := o33_0 n (c33_1 n) a0 a1 a2
def an33 : An := (.n none [] 0 .z (.n (some 1) [(1, .one .c), (2, .one .c), (3, .ps 0 .tm false), (6, .p 1 [.c, .c, .c, .c, .k])] 2 .z .z))
def F33 : Fn := { f := 33, a := an33, vars := [.cell 6 24], ps := [.st .tm, .sc .int, .sc .int], rs := [.st .tm], own := false, fr := true, nt := 33, D := 3, loops := [] }
def cs33 (n : Nat) : List Cal := [⟨87, [.st .tm], [.sc .bool], true, fun a => f87 n a.1⟩, ⟨92, [.st .tm, .sc .int, .sc .int], [.st .tm, .sc .bool], true, fun a => f92 n a.1 a.2.1 a.2.2.1⟩]
def st33_1 (t1 : Int) (t2 : Int) (t3 : Tm) (t6_0 : Int) (t6_1 : Int) (t6_2 : Int) (t6_3 : Int) : SS := ⟨[(1, .v (.one (.c (.int t1) true))), (2, .v (.one (.c (.int t2) true))), (3, .v (.one (.ptr 0 0))), (6, .v (.one (.ptr 1 0)))], [(0, some (.bst .tm t3 false)), (1, some (.box [.c (.int t6_0) true, .c (.int t6_1) true, .c (.int t6_2) true, .c (.int t6_3) true, .nils]))], 2⟩
theorem p33_0 (n : Nat) (lab : Nat → SS → Option (RT.den F33.rs)) (x : PTs.den F33.ps) : F33.body (bodyOf Try.f33) tabR tyR true (cs33 n) lab x = o33_0 n (fun t1 t2 t3 t6_0 t6_1 t6_2 t6_3 => lab 1 (st33_1 t1 t2 t3 t6_0 t6_1 t6_2 t6_3)) x.1 x.2.1 x.2.2.1 := by kernel_rfl
theorem p33_1 (n : Nat) (lab : Nat → SS → Option (RT.den F33.rs)) (t1 : Int) (t2 : Int) (t3 : Tm) (t6_0 : Int) (t6_1 : Int) (t6_2 : Int) (t6_3 : Int) : F33.at (bodyOf Try.f33) tabR tyR true (cs33 n) lab 1 (st33_1 t1 t2 t3 t6_0 t6_1 t6_2 t6_3) = o33_1 n t1 t2 t3 t6_0 t6_1 t6_2 t6_3 := by kernel_rfl
theorem n33_1 (n : Nat) (rec : Nat → SS → Option (RT.den F33.rs)) (d : Nat) (t1 : Int) (t2 : Int) (t3 : Tm) (t6_0 : Int) (t6_1 : Int) (t6_2 : Int) (t6_3 : Int) : F33.labD (bodyOf Try.f33) tabR tyR true (cs33 n) rec (d + 1) 1 (st33_1 t1 t2 t3 t6_0 t6_1 t6_2 t6_3) = c33_1 n t1 t2 t3 t6_0 t6_1 t6_2 t6_3 := by
  show F33.labD (bodyOf Try.f33) tabR tyR true (cs33 n) rec (d + 1) 1 _ = _
  rw [Fn.labD_succ, p33_1]
  rfl
theorem w33 (n : Nat) (x : PTs.den F33.ps) : F33.body (bodyOf Try.f33) tabR tyR true (cs33 n) (F33.labX (bodyOf Try.f33) tabR tyR true (cs33 n) (F33.labM (bodyOf Try.f33) tabR tyR true (cs33 n) 0) F33.D) x = o33_0 n (c33_1 n) x.1 x.2.1 x.2.2.1 := by
  have e1 : ∀ t1 t2 t3 t6_0 t6_1 t6_2 t6_3, F33.labX (bodyOf Try.f33) tabR tyR true (cs33 n) (F33.labM (bodyOf Try.f33) tabR tyR true (cs33 n) 0) 3 1 (st33_1 t1 t2 t3 t6_0 t6_1 t6_2 t6_3) = c33_1 n t1 t2 t3 t6_0 t6_1 t6_2 t6_3 := fun t1 t2 t3 t6_0 t6_1 t6_2 t6_3 => (Fn.labX_step _ _ _ _ _ _ _ _ _ _ (by kernel_rfl)).trans (n33_1 n (F33.labM (bodyOf Try.f33) tabR tyR true (cs33 n) 0) 2 t1 t2 t3 t6_0 t6_1 t6_2 t6_3)
  show F33.body (bodyOf Try.f33) tabR tyR true (cs33 n) (F33.labX (bodyOf Try.f33) tabR tyR true (cs33 n) (F33.labM (bodyOf Try.f33) tabR tyR true (cs33 n) 0) 3) x = _
  rw [p33_0]
  simp only [e1]
  try rfl
theorem call33 : Callable Try.prog 33 := callable_of Try.func33 (by kernel_rfl) (by kernel_rfl)
theorem ok33 (n : Nat) : Cal.Ok Try.prog ⟨33, F33.ps, F33.rs, F33.fr, fun a => f33 n a.1 a.2.1 a.2.2.1⟩ :=
  cal_of_fn F33 (code := bodyOf Try.f33) Try.func33 (by kernel_rfl) (by kernel_rfl) call33 htabR (cs := cs33 n) (fun c hc => by
      simp only [cs33, List.mem_cons, List.not_mem_nil, or_false] at hc
      rcases hc with rfl | rfl
      · exact ok87 n
      · exact ok92 n) (fun _ => mixed) (by kernel_rfl) (by kernel_rfl) (by decide) (fun x => ⟨0, w33 n x⟩)
-- tranship/lift.rename
def o130_0 (s130 : Tm → (List Int) → Int → Option (Tm × Bool)) (n : Nat) (k2 : (List Int) → Int → Tm → Int → Int → Int → Int → Bool → Option (Tm × Bool)) (a0 : Tm) (a1 : List Int) (a2 : Int) : Option (Tm × Bool) :=
  ifB (decide (a0.kind = (2 : Int))) (
    k2 a1 a2 a0 (0 : Int) (0 : Int) (0 : Int) (0 : Int) (decide (a2 ≤ a0.i))) (
    k2 a1 a2 a0 (0 : Int) (0 : Int) (0 : Int) (0 : Int) false)
def o130_1 (s130 : Tm → (List Int) → Int → Option (Tm × Bool)) (n : Nat) (k4 : (List Int) → Int → Tm → Int → Int → Int → Int → (List Tm) → (List Tm) → Int → Int → Option (Tm × Bool)) (t1 : List Int) (t2 : Int) (t3 : Tm) (t6_0 : Int) (t6_1 : Int) (t6_2 : Int) (t6_3 : Int) : Option (Tm × Bool) :=
  ifB (decide ((t3.kids.length : Int) = (0 : Int))) (
    some ((Tm.mk t3.kind t3.i t3.j t3.n ([] : List Tm)), true)) (
    ckB (decide (0 ≤ (t3.kids.length : Int)) && (decide ((t3.kids.length : Int) ≤ (t3.kids.length : Int)) && decide ((56 : Nat) * (t3.kids.length : Int) ≤ 281474976710656))) <|
    k4 t1 t2 t3 t6_0 t6_1 t6_2 t6_3 (List.replicate (t3.kids.length : Int).toNat (Tm.mk (0 : Int) (0 : Int) (0 : Int) (0 : Int) ([] : List Tm))) t3.kids (t3.kids.length : Int) (0 : Int))
def o130_2 (s130 : Tm → (List Int) → Int → Option (Tm × Bool)) (n : Nat) (k1 : (List Int) → Int → Tm → Int → Int → Int → Int → Option (Tm × Bool)) (k3 : (List Int) → Int → Tm → Int → Int → Int → Int → Option (Tm × Bool)) (t1 : List Int) (t2 : Int) (t3 : Tm) (t6_0 : Int) (t6_1 : Int) (t6_2 : Int) (t6_3 : Int) (t21 : Bool) : Option (Tm × Bool) :=
  ifB t21 (
    ckI (t3.i - t2) <|
    ifB (decide ((t1.length : Int) ≤ (t3.i - t2))) (
      some ((Tm.mk (0 : Int) (0 : Int) (0 : Int) (0 : Int) ([] : List Tm)), false)) (
      ckI (t3.i - t2) <|
      atI t1 (t3.i - t2) fun x1 =>
      ckI ((2147483647 : Int) - t2) <|
      ifB (decide (((2147483647 : Int) - t2) < x1)) (
        some ((Tm.mk (0 : Int) (0 : Int) (0 : Int) (0 : Int) ([] : List Tm)), false)) (
        k3 t1 t2 t3 t6_0 t6_1 t6_2 t6_3))) (
    k1 t1 t2 t3 t6_0 t6_1 t6_2 t6_3)
def o130_3 (s130 : Tm → (List Int) → Int → Option (Tm × Bool)) (n : Nat) (k1 : (List Int) → Int → Tm → Int → Int → Int → Int → Option (Tm × Bool)) (t1 : List Int) (t2 : Int) (t3 : Tm) (t6_0 : Int) (t6_1 : Int) (t6_2 : Int) (t6_3 : Int) : Option (Tm × Bool) :=
  ckI (t3.i - t2) <|
  atI t1 (t3.i - t2) fun x2 =>
  ckI (x2 + t2) <|
  k1 t1 t2 (Tm.mk t3.kind (x2 + t2) t3.j t3.n t3.kids) t6_0 t6_1 t6_2 t6_3
def o130_4 (s130 : Tm → (List Int) → Int → Option (Tm × Bool)) (n : Nat) (k4 : (List Int) → Int → Tm → Int → Int → Int → Int → (List Tm) → (List Tm) → Int → Int → Option (Tm × Bool)) (t1 : List Int) (t2 : Int) (t3 : Tm) (t6_0 : Int) (t6_1 : Int) (t6_2 : Int) (t6_3 : Int) (t8 : List Tm) (t63 : List Tm) (t64 : Int) (t65 : Int) : Option (Tm × Bool) :=
  ifB (decide (t65 < t64)) (
    atI t63 t65 fun x3 =>
    (f129 t3.kind t65).bind fun x4 =>
    ckI (t2 + x4) <|
    (s130 x3 t1 (t2 + x4)).bind fun x5 =>
    ifB (!x5.2) (
      some ((Tm.mk (0 : Int) (0 : Int) (0 : Int) (0 : Int) ([] : List Tm)), false)) (
      ckB (decide (0 ≤ t65) && decide (t65 < t8.length)) <|
      ckB (decide (t65.toNat < t8.length)) <|
      ckI (t65 + (1 : Int)) <|
      k4 t1 t2 t3 t6_0 t6_1 t6_2 t6_3 (t8.set t65.toNat (Tm.mk x5.1.kind x5.1.i x5.1.j x5.1.n x5.1.kids)) t63 t64 (t65 + (1 : Int)))) (
    some ((Tm.mk t3.kind t3.i t3.j t3.n t8), true))
def c130_1 (s130 : Tm → (List Int) → Int → Option (Tm × Bool)) (n : Nat) (k4 : (List Int) → Int → Tm → Int → Int → Int → Int → (List Tm) → (List Tm) → Int → Int → Option (Tm × Bool)) (t1 : List Int) (t2 : Int) (t3 : Tm) (t6_0 : Int) (t6_1 : Int) (t6_2 : Int) (t6_3 : Int) : Option (Tm × Bool) :=
  o130_1 s130 n k4 t1 t2 t3 t6_0 t6_1 t6_2 t6_3
def c130_3 (s130 : Tm → (List Int) → Int → Option (Tm × Bool)) (n : Nat) (k4 : (List Int) → Int → Tm → Int → Int → Int → Int → (List Tm) → (List Tm) → Int → Int → Option (Tm × Bool)) (t1 : List Int) (t2 : Int) (t3 : Tm) (t6_0 : Int) (t6_1 : Int) (t6_2 : Int) (t6_3 : Int) : Option (Tm × Bool) :=
  o130_3 s130 n (c130_1 s130 n k4) t1 t2 t3 t6_0 t6_1 t6_2 t6_3
def c130_2 (s130 : Tm → (List Int) → Int → Option (Tm × Bool)) (n : Nat) (k4 : (List Int) → Int → Tm → Int → Int → Int → Int → (List Tm) → (List Tm) → Int → Int → Option (Tm × Bool)) (t1 : List Int) (t2 : Int) (t3 : Tm) (t6_0 : Int) (t6_1 : Int) (t6_2 : Int) (t6_3 : Int) (t21 : Bool) : Option (Tm × Bool) :=
  o130_2 s130 n (c130_1 s130 n k4) (c130_3 s130 n k4) t1 t2 t3 t6_0 t6_1 t6_2 t6_3 t21
def l130_4 (s130 : Tm → (List Int) → Int → Option (Tm × Bool)) (n : Nat) : Nat → (List Int) → Int → Tm → Int → Int → Int → Int → (List Tm) → (List Tm) → Int → Int → Option (Tm × Bool)
  | 0, _, _, _, _, _, _, _, _, _, _, _ => none
  | m + 1, t1, t2, t3, t6_0, t6_1, t6_2, t6_3, t8, t63, t64, t65 => o130_4 s130 n (l130_4 s130 n m) t1 t2 t3 t6_0 t6_1 t6_2 t6_3 t8 t63 t64 t65
def f130 : Nat → Tm → (List Int) → Int → Option (Tm × Bool)
  | 0, _, _, _ => none
  | n + 1, a0, a1, a2 => o130_0 (f130 n) n (c130_2 (f130 n) n (l130_4 (f130 n) n n)) a0 a1 a2
def an130 : An := (.n none [] 0 .z (.n (some 1) [(1, .one (.d .int false)), (2, .one .c), (3, .ps 0 .tm false), (6, .p 1 [.c, .c, .c, .c, .k])] 2 (.n (some 2) [(1, .one (.d .int false)), (2, .one .c), (3, .ps 0 .tm false), (6, .p 1 [.c, .c, .c, .c, .k]), (21, .one .c)] 2 .z (.n none [] 0 (.n (some 3) [(1, .one (.d .int false)), (2, .one .c), (3, .ps 0 .tm false), (6, .p 1 [.c, .c, .c, .c, .k])] 2 .z .z) .z)) (.n none [] 0 .z (.n none [] 0 .z (.n none [] 0 (.n none [] 0 .z (.n none [] 0 (.n (some 4) [(1, .one (.d .int false)), (2, .one .c), (3, .ps 0 .tm false), (6, .p 1 [.c, .c, .c, .c, .k]), (8, .one (.r 2 24 .tm true)), (63, .one (.d .tm false)), (64, .one .c), (65, .one .c)] 3 .z .z) .z)) .z)))))
def F130 : Fn := { f := 130, a := an130, vars := [.cell 6 24, .tmp 7], ps := [.st .tm, .sl .int, .sc .int], rs := [.st .tm, .sc .bool], own := false, fr := true, nt := 93, D := 6, loops := [4] }
def cs130 (s130 : Tm → (List Int) → Int → Option (Tm × Bool)) (n : Nat) : List Cal := [⟨129, [.sc .int, .sc .int], [.sc .int], true, fun a => f129 a.1 a.2.1⟩, ⟨130, [.st .tm, .sl .int, .sc .int], [.st .tm, .sc .bool], true, fun a => s130 a.1 a.2.1 a.2.2.1⟩]
def st130_1 (t1 : List Int) (t2 : Int) (t3 : Tm) (t6_0 : Int) (t6_1 : Int) (t6_2 : Int) (t6_3 : Int) : SS := ⟨[(1, .v (.one (.c (.sl .int t1) false))), (2, .v (.one (.c (.int t2) true))), (3, .v (.one (.ptr 0 0))), (6, .v (.one (.ptr 1 0)))], [(0, some (.bst .tm t3 false)), (1, some (.box [.c (.int t6_0) true, .c (.int t6_1) true, .c (.int t6_2) true, .c (.int t6_3) true, .nils]))], 2⟩
def st130_2 (t1 : List Int) (t2 : Int) (t3 : Tm) (t6_0 : Int) (t6_1 : Int) (t6_2 : Int) (t6_3 : Int) (t21 : Bool) : SS := ⟨[(1, .v (.one (.c (.sl .int t1) false))), (2, .v (.one (.c (.int t2) true))), (3, .v (.one (.ptr 0 0))), (6, .v (.one (.ptr 1 0))), (21, .v (.one (.c (.bool t21) true)))], [(0, some (.bst .tm t3 false)), (1, some (.box [.c (.int t6_0) true, .c (.int t6_1) true, .c (.int t6_2) true, .c (.int t6_3) true, .nils]))], 2⟩
def st130_3 (t1 : List Int) (t2 : Int) (t3 : Tm) (t6_0 : Int) (t6_1 : Int) (t6_2 : Int) (t6_3 : Int) : SS := ⟨[(1, .v (.one (.c (.sl .int t1) false))), (2, .v (.one (.c (.int t2) true))), (3, .v (.one (.ptr 0 0))), (6, .v (.one (.ptr 1 0)))], [(0, some (.bst .tm t3 false)), (1, some (.box [.c (.int t6_0) true, .c (.int t6_1) true, .c (.int t6_2) true, .c (.int t6_3) true, .nils]))], 2⟩
def st130_4 (t1 : List Int) (t2 : Int) (t3 : Tm) (t6_0 : Int) (t6_1 : Int) (t6_2 : Int) (t6_3 : Int) (t8 : List Tm) (t63 : List Tm) (t64 : Int) (t65 : Int) : SS := ⟨[(1, .v (.one (.c (.sl .int t1) false))), (2, .v (.one (.c (.int t2) true))), (3, .v (.one (.ptr 0 0))), (6, .v (.one (.ptr 1 0))), (8, .v (.one (.arr 2))), (63, .v (.one (.c (.sl .tm t63) false))), (64, .v (.one (.c (.int t64) true))), (65, .v (.one (.c (.int t65) true)))], [(0, some (.bst .tm t3 false)), (1, some (.box [.c (.int t6_0) true, .c (.int t6_1) true, .c (.int t6_2) true, .c (.int t6_3) true, .nils])), (2, some (.row 24 .tm t8 true))], 3⟩
theorem p130_0 (s130 : Tm → (List Int) → Int → Option (Tm × Bool)) (n : Nat) (lab : Nat → SS → Option (RT.den F130.rs)) (x : PTs.den F130.ps) : F130.body (bodyOf Try.f130) tabR tyR true (cs130 s130 n) lab x = o130_0 s130 n (fun t1 t2 t3 t6_0 t6_1 t6_2 t6_3 t21 => lab 2 (st130_2 t1 t2 t3 t6_0 t6_1 t6_2 t6_3 t21)) x.1 x.2.1 x.2.2.1 := by kernel_rfl
theorem p130_1 (s130 : Tm → (List Int) → Int → Option (Tm × Bool)) (n : Nat) (lab : Nat → SS → Option (RT.den F130.rs)) (t1 : List Int) (t2 : Int) (t3 : Tm) (t6_0 : Int) (t6_1 : Int) (t6_2 : Int) (t6_3 : Int) : F130.at (bodyOf Try.f130) tabR tyR true (cs130 s130 n) lab 1 (st130_1 t1 t2 t3 t6_0 t6_1 t6_2 t6_3) = o130_1 s130 n (fun t1 t2 t3 t6_0 t6_1 t6_2 t6_3 t8 t63 t64 t65 => lab 4 (st130_4 t1 t2 t3 t6_0 t6_1 t6_2 t6_3 t8 t63 t64 t65)) t1 t2 t3 t6_0 t6_1 t6_2 t6_3 := by kernel_rfl
theorem p130_2 (s130 : Tm → (List Int) → Int → Option (Tm × Bool)) (n : Nat) (lab : Nat → SS → Option (RT.den F130.rs)) (t1 : List Int) (t2 : Int) (t3 : Tm) (t6_0 : Int) (t6_1 : Int) (t6_2 : Int) (t6_3 : Int) (t21 : Bool) : F130.at (bodyOf Try.f130) tabR tyR true (cs130 s130 n) lab 2 (st130_2 t1 t2 t3 t6_0 t6_1 t6_2 t6_3 t21) = o130_2 s130 n (fun t1 t2 t3 t6_0 t6_1 t6_2 t6_3 => lab 1 (st130_1 t1 t2 t3 t6_0 t6_1 t6_2 t6_3)) (fun t1 t2 t3 t6_0 t6_1 t6_2 t6_3 => lab 3 (st130_3 t1 t2 t3 t6_0 t6_1 t6_2 t6_3)) t1 t2 t3 t6_0 t6_1 t6_2 t6_3 t21 := by kernel_rfl
theorem p130_3 (s130 : Tm → (List Int) → Int → Option (Tm × Bool)) (n : Nat) (lab : Nat → SS → Option (RT.den F130.rs)) (t1 : List Int) (t2 : Int) (t3 : Tm) (t6_0 : Int) (t6_1 : Int) (t6_2 : Int) (t6_3 : Int) : F130.at (bodyOf Try.f130) tabR tyR true (cs130 s130 n) lab 3 (st130_3 t1 t2 t3 t6_0 t6_1 t6_2 t6_3) = o130_3 s130 n (fun t1 t2 t3 t6_0 t6_1 t6_2 t6_3 => lab 1 (st130_1 t1 t2 t3 t6_0 t6_1 t6_2 t6_3)) t1 t2 t3 t6_0 t6_1 t6_2 t6_3 := by kernel_rfl
theorem p130_4 (s130 : Tm → (List Int) → Int → Option (Tm × Bool)) (n : Nat) (lab : Nat → SS → Option (RT.den F130.rs)) (t1 : List Int) (t2 : Int) (t3 : Tm) (t6_0 : Int) (t6_1 : Int) (t6_2 : Int) (t6_3 : Int) (t8 : List Tm) (t63 : List Tm) (t64 : Int) (t65 : Int) : F130.at (bodyOf Try.f130) tabR tyR true (cs130 s130 n) lab 4 (st130_4 t1 t2 t3 t6_0 t6_1 t6_2 t6_3 t8 t63 t64 t65) = o130_4 s130 n (fun t1 t2 t3 t6_0 t6_1 t6_2 t6_3 t8 t63 t64 t65 => lab 4 (st130_4 t1 t2 t3 t6_0 t6_1 t6_2 t6_3 t8 t63 t64 t65)) t1 t2 t3 t6_0 t6_1 t6_2 t6_3 t8 t63 t64 t65 := by kernel_rfl
theorem n130_1 (s130 : Tm → (List Int) → Int → Option (Tm × Bool)) (n : Nat) (rec : Nat → SS → Option (RT.den F130.rs)) (k4 : (List Int) → Int → Tm → Int → Int → Int → Int → (List Tm) → (List Tm) → Int → Int → Option (Tm × Bool)) (h4 : ∀ t1 t2 t3 t6_0 t6_1 t6_2 t6_3 t8 t63 t64 t65, rec 4 (st130_4 t1 t2 t3 t6_0 t6_1 t6_2 t6_3 t8 t63 t64 t65) = k4 t1 t2 t3 t6_0 t6_1 t6_2 t6_3 t8 t63 t64 t65) (d : Nat) (t1 : List Int) (t2 : Int) (t3 : Tm) (t6_0 : Int) (t6_1 : Int) (t6_2 : Int) (t6_3 : Int) : F130.labD (bodyOf Try.f130) tabR tyR true (cs130 s130 n) rec (d + 1) 1 (st130_1 t1 t2 t3 t6_0 t6_1 t6_2 t6_3) = c130_1 s130 n k4 t1 t2 t3 t6_0 t6_1 t6_2 t6_3 := by
  have e4 : ∀ t1 t2 t3 t6_0 t6_1 t6_2 t6_3 t8 t63 t64 t65, F130.labX (bodyOf Try.f130) tabR tyR true (cs130 s130 n) rec d 4 (st130_4 t1 t2 t3 t6_0 t6_1 t6_2 t6_3 t8 t63 t64 t65) = k4 t1 t2 t3 t6_0 t6_1 t6_2 t6_3 t8 t63 t64 t65 := fun t1 t2 t3 t6_0 t6_1 t6_2 t6_3 t8 t63 t64 t65 => (Fn.labX_loop _ _ _ _ _ _ _ _ _ _ (by kernel_rfl)).trans (h4 t1 t2 t3 t6_0 t6_1 t6_2 t6_3 t8 t63 t64 t65)
  show F130.labD (bodyOf Try.f130) tabR tyR true (cs130 s130 n) rec (d + 1) 1 _ = _
  rw [Fn.labD_succ, p130_1]
  simp only [e4]
  rfl
theorem n130_3 (s130 : Tm → (List Int) → Int → Option (Tm × Bool)) (n : Nat) (rec : Nat → SS → Option (RT.den F130.rs)) (k4 : (List Int) → Int → Tm → Int → Int → Int → Int → (List Tm) → (List Tm) → Int → Int → Option (Tm × Bool)) (h4 : ∀ t1 t2 t3 t6_0 t6_1 t6_2 t6_3 t8 t63 t64 t65, rec 4 (st130_4 t1 t2 t3 t6_0 t6_1 t6_2 t6_3 t8 t63 t64 t65) = k4 t1 t2 t3 t6_0 t6_1 t6_2 t6_3 t8 t63 t64 t65) (d : Nat) (t1 : List Int) (t2 : Int) (t3 : Tm) (t6_0 : Int) (t6_1 : Int) (t6_2 : Int) (t6_3 : Int) : F130.labD (bodyOf Try.f130) tabR tyR true (cs130 s130 n) rec (d + 2) 3 (st130_3 t1 t2 t3 t6_0 t6_1 t6_2 t6_3) = c130_3 s130 n k4 t1 t2 t3 t6_0 t6_1 t6_2 t6_3 := by
  have e1 : ∀ t1 t2 t3 t6_0 t6_1 t6_2 t6_3, F130.labX (bodyOf Try.f130) tabR tyR true (cs130 s130 n) rec (d + 1) 1 (st130_1 t1 t2 t3 t6_0 t6_1 t6_2 t6_3) = c130_1 s130 n k4 t1 t2 t3 t6_0 t6_1 t6_2 t6_3 := fun t1 t2 t3 t6_0 t6_1 t6_2 t6_3 => (Fn.labX_step _ _ _ _ _ _ _ _ _ _ (by kernel_rfl)).trans (n130_1 s130 n rec k4 h4 d t1 t2 t3 t6_0 t6_1 t6_2 t6_3)
  show F130.labD (bodyOf Try.f130) tabR tyR true (cs130 s130 n) rec ((d + 1) + 1) 3 _ = _
  rw [Fn.labD_succ, p130_3]
  simp only [e1]
  rfl
theorem n130_2 (s130 : Tm → (List Int) → Int → Option (Tm × Bool)) (n : Nat) (rec : Nat → SS → Option (RT.den F130.rs)) (k4 : (List Int) → Int → Tm → Int → Int → Int → Int → (List Tm) → (List Tm) → Int → Int → Option (Tm × Bool)) (h4 : ∀ t1 t2 t3 t6_0 t6_1 t6_2 t6_3 t8 t63 t64 t65, rec 4 (st130_4 t1 t2 t3 t6_0 t6_1 t6_2 t6_3 t8 t63 t64 t65) = k4 t1 t2 t3 t6_0 t6_1 t6_2 t6_3 t8 t63 t64 t65) (d : Nat) (t1 : List Int) (t2 : Int) (t3 : Tm) (t6_0 : Int) (t6_1 : Int) (t6_2 : Int) (t6_3 : Int) (t21 : Bool) : F130.labD (bodyOf Try.f130) tabR tyR true (cs130 s130 n) rec (d + 3) 2 (st130_2 t1 t2 t3 t6_0 t6_1 t6_2 t6_3 t21) = c130_2 s130 n k4 t1 t2 t3 t6_0 t6_1 t6_2 t6_3 t21 := by
  have e1 : ∀ t1 t2 t3 t6_0 t6_1 t6_2 t6_3, F130.labX (bodyOf Try.f130) tabR tyR true (cs130 s130 n) rec (d + 2) 1 (st130_1 t1 t2 t3 t6_0 t6_1 t6_2 t6_3) = c130_1 s130 n k4 t1 t2 t3 t6_0 t6_1 t6_2 t6_3 := fun t1 t2 t3 t6_0 t6_1 t6_2 t6_3 => (Fn.labX_step _ _ _ _ _ _ _ _ _ _ (by kernel_rfl)).trans (n130_1 s130 n rec k4 h4 (d + 1) t1 t2 t3 t6_0 t6_1 t6_2 t6_3)
  have e3 : ∀ t1 t2 t3 t6_0 t6_1 t6_2 t6_3, F130.labX (bodyOf Try.f130) tabR tyR true (cs130 s130 n) rec (d + 2) 3 (st130_3 t1 t2 t3 t6_0 t6_1 t6_2 t6_3) = c130_3 s130 n k4 t1 t2 t3 t6_0 t6_1 t6_2 t6_3 := fun t1 t2 t3 t6_0 t6_1 t6_2 t6_3 => (Fn.labX_step _ _ _ _ _ _ _ _ _ _ (by kernel_rfl)).trans (n130_3 s130 n rec k4 h4 d t1 t2 t3 t6_0 t6_1 t6_2 t6_3)
  show F130.labD (bodyOf Try.f130) tabR tyR true (cs130 s130 n) rec ((d + 2) + 1) 2 _ = _
  rw [Fn.labD_succ, p130_2]
  simp only [e1, e3]
  rfl
theorem m130_4 (s130 : Tm → (List Int) → Int → Option (Tm × Bool)) (n : Nat) : ∀ m : Nat, (∀ t1 t2 t3 t6_0 t6_1 t6_2 t6_3 t8 t63 t64 t65, F130.labM (bodyOf Try.f130) tabR tyR true (cs130 s130 n) m 4 (st130_4 t1 t2 t3 t6_0 t6_1 t6_2 t6_3 t8 t63 t64 t65) = l130_4 s130 n m t1 t2 t3 t6_0 t6_1 t6_2 t6_3 t8 t63 t64 t65) := by
  intro m
  induction m with
  | zero => exact fun _ _ _ _ _ _ _ _ _ _ _ => rfl
  | succ m ih =>
    intro t1 t2 t3 t6_0 t6_1 t6_2 t6_3 t8 t63 t64 t65
    have e4 : ∀ t1 t2 t3 t6_0 t6_1 t6_2 t6_3 t8 t63 t64 t65, F130.labX (bodyOf Try.f130) tabR tyR true (cs130 s130 n) (F130.labM (bodyOf Try.f130) tabR tyR true (cs130 s130 n) m) 5 4 (st130_4 t1 t2 t3 t6_0 t6_1 t6_2 t6_3 t8 t63 t64 t65) = (l130_4 s130 n m) t1 t2 t3 t6_0 t6_1 t6_2 t6_3 t8 t63 t64 t65 := fun t1 t2 t3 t6_0 t6_1 t6_2 t6_3 t8 t63 t64 t65 => (Fn.labX_loop _ _ _ _ _ _ _ _ _ _ (by kernel_rfl)).trans (ih t1 t2 t3 t6_0 t6_1 t6_2 t6_3 t8 t63 t64 t65)
    rw [Fn.labM_succ]
    show F130.labD (bodyOf Try.f130) tabR tyR true (cs130 s130 n) (F130.labM (bodyOf Try.f130) tabR tyR true (cs130 s130 n) m) (5 + 1) 4 _ = _
    rw [Fn.labD_succ, p130_4]
    simp only [e4]
    rfl
theorem w130 (s130 : Tm → (List Int) → Int → Option (Tm × Bool)) (n : Nat) (x : PTs.den F130.ps) : F130.body (bodyOf Try.f130) tabR tyR true (cs130 s130 n) (F130.labX (bodyOf Try.f130) tabR tyR true (cs130 s130 n) (F130.labM (bodyOf Try.f130) tabR tyR true (cs130 s130 n) n) F130.D) x = o130_0 s130 n (c130_2 s130 n (l130_4 s130 n n)) x.1 x.2.1 x.2.2.1 := by
  have e2 : ∀ t1 t2 t3 t6_0 t6_1 t6_2 t6_3 t21, F130.labX (bodyOf Try.f130) tabR tyR true (cs130 s130 n) (F130.labM (bodyOf Try.f130) tabR tyR true (cs130 s130 n) n) 6 2 (st130_2 t1 t2 t3 t6_0 t6_1 t6_2 t6_3 t21) = c130_2 s130 n (l130_4 s130 n n) t1 t2 t3 t6_0 t6_1 t6_2 t6_3 t21 := fun t1 t2 t3 t6_0 t6_1 t6_2 t6_3 t21 => (Fn.labX_step _ _ _ _ _ _ _ _ _ _ (by kernel_rfl)).trans (n130_2 s130 n (F130.labM (bodyOf Try.f130) tabR tyR true (cs130 s130 n) n) (l130_4 s130 n n) (m130_4 s130 n n) 3 t1 t2 t3 t6_0 t6_1 t6_2 t6_3 t21)
  show F130.body (bodyOf Try.f130) tabR tyR true (cs130 s130 n) (F130.labX (bodyOf Try.f130) tabR tyR true (cs130 s130 n) (F130.labM (bodyOf Try.f130) tabR tyR true (cs130 s130 n) n) 6) x = _
  rw [p130_0]
  simp only [e2]
  try rfl
theorem call130 : Callable Try.prog 130 := callable_of Try.func130 (by kernel_rfl) (by kernel_rfl)
theorem okr130 : ∀ n : Nat, Cal.Ok Try.prog ⟨130, F130.ps, F130.rs, F130.fr, fun a => f130 n a.1 a.2.1 a.2.2.1⟩
  | 0 => ⟨by kernel_rfl, fun a r h => by cases h⟩
  | n + 1 => cal_of_fn F130 (code := bodyOf Try.f130) Try.func130 (by kernel_rfl) (by kernel_rfl) call130 htabR (cs := cs130 (f130 n) n) (fun c hc => by
      simp only [cs130, List.mem_cons, List.not_mem_nil, or_false] at hc
      rcases hc with rfl | rfl
      · exact ok129
      · exact (okr130 n)) (fun _ => mixed) (by kernel_rfl) (by kernel_rfl) (by decide) (fun x => ⟨n, w130 (f130 n) n x⟩)
theorem ok130 (n : Nat) : Cal.Ok Try.prog ⟨130, F130.ps, F130.rs, F130.fr, fun a => f130 n a.1 a.2.1 a.2.2.1⟩ := (okr130 n)
-- tranship/lift.Rename
def o94_0 (n : Nat) (k1 : (List Int) → Tm → Int → Int → Int → Int → (List Int) → Int → Int → Option (Tm × Bool)) (a0 : Tm) (a1 : List Int) : Option (Tm × Bool) :=
  k1 a1 a0 (0 : Int) (0 : Int) (0 : Int) (0 : Int) a1 (a1.length : Int) (0 : Int)
def o94_1 (n : Nat) (k1 : (List Int) → Tm → Int → Int → Int → Int → (List Int) → Int → Int → Option (Tm × Bool)) (t1 : List Int) (t2 : Tm) (t4_0 : Int) (t4_1 : Int) (t4_2 : Int) (t4_3 : Int) (t8 : List Int) (t9 : Int) (t10 : Int) : Option (Tm × Bool) :=
  ifB (decide (t10 < t9)) (
    atI t8 t10 fun x1 =>
    ifB (decide (x1 < (0 : Int))) (
      some ((Tm.mk (0 : Int) (0 : Int) (0 : Int) (0 : Int) ([] : List Tm)), false)) (
      ifB (decide ((1073741824 : Int) < x1)) (
        some ((Tm.mk (0 : Int) (0 : Int) (0 : Int) (0 : Int) ([] : List Tm)), false)) (
        ckI (t10 + (1 : Int)) <|
        k1 t1 t2 t4_0 t4_1 t4_2 t4_3 t8 t9 (t10 + (1 : Int))))) (
    (f87 n t2).bind fun x2 =>
    ifB (!x2) (
      some ((Tm.mk (0 : Int) (0 : Int) (0 : Int) (0 : Int) ([] : List Tm)), false)) (
      (f130 n t2 t1 (0 : Int)).bind fun x3 =>
      some (x3.1, x3.2)))
def l94_1 (n : Nat) : Nat → (List Int) → Tm → Int → Int → Int → Int → (List Int) → Int → Int → Option (Tm × Bool)
  | 0, _, _, _, _, _, _, _, _, _ => none
  | m + 1, t1, t2, t4_0, t4_1, t4_2, t4_3, t8, t9, t10 => o94_1 n (l94_1 n m) t1 t2 t4_0 t4_1 t4_2 t4_3 t8 t9 t10
def f94 (n : Nat) (a0 : Tm) (a1 : List Int) : Option (Tm × Bool) := o94_0 n (l94_1 n n) a0 a1
def an94 : An := (.n none [] 0 .z (.n none [] 0 (.n none [] 0 .z (.n none [] 0 (.n (some 1) [(1, .one (.d .int false)), (2, .ps 0 .tm false), (4, .p 1 [.c, .c, .c, .c, .k]), (8, .one (.d .int false)), (9, .one .c), (10, .one .c)] 2 .z .z) .z)) .z))
def F94 : Fn := { f := 94, a := an94, vars := [.cell 4 24, .tmp 5], ps := [.st .tm, .sl .int], rs := [.st .tm, .sc .bool], own := false, fr := true, nt := 31, D := 3, loops := [1] }
def cs94 (n : Nat) : List Cal := [⟨87, [.st .tm], [.sc .bool], true, fun a => f87 n a.1⟩, ⟨130, [.st .tm, .sl .int, .sc .int], [.st .tm, .sc .bool], true, fun a => f130 n a.1 a.2.1 a.2.2.1⟩]
def st94_1 (t1 : List Int) (t2 : Tm) (t4_0 : Int) (t4_1 : Int) (t4_2 : Int) (t4_3 : Int) (t8 : List Int) (t9 : Int) (t10 : Int) : SS := ⟨[(1, .v (.one (.c (.sl .int t1) false))), (2, .v (.one (.ptr 0 0))), (4, .v (.one (.ptr 1 0))), (8, .v (.one (.c (.sl .int t8) false))), (9, .v (.one (.c (.int t9) true))), (10, .v (.one (.c (.int t10) true)))], [(0, some (.bst .tm t2 false)), (1, some (.box [.c (.int t4_0) true, .c (.int t4_1) true, .c (.int t4_2) true, .c (.int t4_3) true, .nils]))], 2⟩
theorem p94_0 (n : Nat) (lab : Nat → SS → Option (RT.den F94.rs)) (x : PTs.den F94.ps) : F94.body (bodyOf Try.f94) tabR tyR true (cs94 n) lab x = o94_0 n (fun t1 t2 t4_0 t4_1 t4_2 t4_3 t8 t9 t10 => lab 1 (st94_1 t1 t2 t4_0 t4_1 t4_2 t4_3 t8 t9 t10)) x.1 x.2.1 := by kernel_rfl
theorem p94_1 (n : Nat) (lab : Nat → SS → Option (RT.den F94.rs)) (t1 : List Int) (t2 : Tm) (t4_0 : Int) (t4_1 : Int) (t4_2 : Int) (t4_3 : Int) (t8 : List Int) (t9 : Int) (t10 : Int) : F94.at (bodyOf Try.f94) tabR tyR true (cs94 n) lab 1 (st94_1 t1 t2 t4_0 t4_1 t4_2 t4_3 t8 t9 t10) = o94_1 n (fun t1 t2 t4_0 t4_1 t4_2 t4_3 t8 t9 t10 => lab 1 (st94_1 t1 t2 t4_0 t4_1 t4_2 t4_3 t8 t9 t10)) t1 t2 t4_0 t4_1 t4_2 t4_3 t8 t9 t10 := by kernel_rfl
theorem m94_1 (n : Nat) : ∀ m : Nat, (∀ t1 t2 t4_0 t4_1 t4_2 t4_3 t8 t9 t10, F94.labM (bodyOf Try.f94) tabR tyR true (cs94 n) m 1 (st94_1 t1 t2 t4_0 t4_1 t4_2 t4_3 t8 t9 t10) = l94_1 n m t1 t2 t4_0 t4_1 t4_2 t4_3 t8 t9 t10) := by
  intro m
  induction m with
  | zero => exact fun _ _ _ _ _ _ _ _ _ => rfl
  | succ m ih =>
    intro t1 t2 t4_0 t4_1 t4_2 t4_3 t8 t9 t10
    have e1 : ∀ t1 t2 t4_0 t4_1 t4_2 t4_3 t8 t9 t10, F94.labX (bodyOf Try.f94) tabR tyR true (cs94 n) (F94.labM (bodyOf Try.f94) tabR tyR true (cs94 n) m) 2 1 (st94_1 t1 t2 t4_0 t4_1 t4_2 t4_3 t8 t9 t10) = (l94_1 n m) t1 t2 t4_0 t4_1 t4_2 t4_3 t8 t9 t10 := fun t1 t2 t4_0 t4_1 t4_2 t4_3 t8 t9 t10 => (Fn.labX_loop _ _ _ _ _ _ _ _ _ _ (by kernel_rfl)).trans (ih t1 t2 t4_0 t4_1 t4_2 t4_3 t8 t9 t10)
    rw [Fn.labM_succ]
    show F94.labD (bodyOf Try.f94) tabR tyR true (cs94 n) (F94.labM (bodyOf Try.f94) tabR tyR true (cs94 n) m) (2 + 1) 1 _ = _
    rw [Fn.labD_succ, p94_1]
    simp only [e1]
    rfl
theorem w94 (n : Nat) (x : PTs.den F94.ps) : F94.body (bodyOf Try.f94) tabR tyR true (cs94 n) (F94.labX (bodyOf Try.f94) tabR tyR true (cs94 n) (F94.labM (bodyOf Try.f94) tabR tyR true (cs94 n) n) F94.D) x = o94_0 n (l94_1 n n) x.1 x.2.1 := by
  have e1 : ∀ t1 t2 t4_0 t4_1 t4_2 t4_3 t8 t9 t10, F94.labX (bodyOf Try.f94) tabR tyR true (cs94 n) (F94.labM (bodyOf Try.f94) tabR tyR true (cs94 n) n) 3 1 (st94_1 t1 t2 t4_0 t4_1 t4_2 t4_3 t8 t9 t10) = (l94_1 n n) t1 t2 t4_0 t4_1 t4_2 t4_3 t8 t9 t10 := fun t1 t2 t4_0 t4_1 t4_2 t4_3 t8 t9 t10 => (Fn.labX_loop _ _ _ _ _ _ _ _ _ _ (by kernel_rfl)).trans ((m94_1 n n) t1 t2 t4_0 t4_1 t4_2 t4_3 t8 t9 t10)
  show F94.body (bodyOf Try.f94) tabR tyR true (cs94 n) (F94.labX (bodyOf Try.f94) tabR tyR true (cs94 n) (F94.labM (bodyOf Try.f94) tabR tyR true (cs94 n) n) 3) x = _
  rw [p94_0]
  simp only [e1]
  try rfl
theorem call94 : Callable Try.prog 94 := callable_of Try.func94 (by kernel_rfl) (by kernel_rfl)
theorem ok94 (n : Nat) : Cal.Ok Try.prog ⟨94, F94.ps, F94.rs, F94.fr, fun a => f94 n a.1 a.2.1⟩ :=
  cal_of_fn F94 (code := bodyOf Try.f94) Try.func94 (by kernel_rfl) (by kernel_rfl) call94 htabR (cs := cs94 n) (fun c hc => by
      simp only [cs94, List.mem_cons, List.not_mem_nil, or_false] at hc
      rcases hc with rfl | rfl
      · exact ok87 n
      · exact ok130 n) (fun _ => mixed) (by kernel_rfl) (by kernel_rfl) (by decide) (fun x => ⟨n, w94 n x⟩)
-- tranship/transhipref04.may
def o95_0 (n : Nat) (a0 : Tm) (a1 : Tm) : Option Bool :=
  (f90 n a1).bind fun x1 =>
  ifB x1 (
    ifB (decide (a0.kind = (1 : Int))) (
      some true) (
      ifB (decide (a0.kind = (2 : Int))) (
        some true) (
        (f82 n a0).bind fun x2 =>
        ifB x2 (
          some true) (
          (f25 n a1).bind fun x3 =>
          some x3)))) (
    some false)
def f95 (n : Nat) (a0 : Tm) (a1 : Tm) : Option Bool := o95_0 n a0 a1
def an95 : An := .z
def F95 : Fn := { f := 95, a := an95, vars := [.tmp 4], ps := [.st .tm, .st .tm], rs := [.sc .bool], own := false, fr := true, nt := 25, D := 2, loops := [] }
def cs95 (n : Nat) : List Cal := [⟨25, [.st .tm], [.sc .bool], true, fun a => f25 n a.1⟩, ⟨82, [.st .tm], [.sc .bool], true, fun a => f82 n a.1⟩, ⟨90, [.st .tm], [.sc .bool], true, fun a => f90 n a.1⟩]
theorem p95_0 (n : Nat) (lab : Nat → SS → Option (RT.den F95.rs)) (x : PTs.den F95.ps) : F95.body (bodyOf Try.f95) tabR tyR true (cs95 n) lab x = o95_0 n x.1 x.2.1 := by kernel_rfl
theorem w95 (n : Nat) (x : PTs.den F95.ps) : F95.body (bodyOf Try.f95) tabR tyR true (cs95 n) (F95.labX (bodyOf Try.f95) tabR tyR true (cs95 n) (F95.labM (bodyOf Try.f95) tabR tyR true (cs95 n) 0) F95.D) x = o95_0 n x.1 x.2.1 := by
  show F95.body (bodyOf Try.f95) tabR tyR true (cs95 n) (F95.labX (bodyOf Try.f95) tabR tyR true (cs95 n) (F95.labM (bodyOf Try.f95) tabR tyR true (cs95 n) 0) 2) x = _
  rw [p95_0]
theorem call95 : Callable Try.prog 95 := callable_of Try.func95 (by kernel_rfl) (by kernel_rfl)
theorem ok95 (n : Nat) : Cal.Ok Try.prog ⟨95, F95.ps, F95.rs, F95.fr, fun a => f95 n a.1 a.2.1⟩ :=
  cal_of_fn F95 (code := bodyOf Try.f95) Try.func95 (by kernel_rfl) (by kernel_rfl) call95 htabR (cs := cs95 n) (fun c hc => by
      simp only [cs95, List.mem_cons, List.not_mem_nil, or_false] at hc
      rcases hc with rfl | rfl | rfl
      · exact ok25 n
      · exact ok82 n
      · exact ok90 n) (fun _ => mixed) (by kernel_rfl) (by kernel_rfl) (by decide) (fun x => ⟨0, w95 n x⟩)
-- tranship/transhipref04.raised
def o131_0 (n : Nat) (k1 : Int → Tm → Int → Int → Int → Int → Option (Tm × Bool)) (a0 : Tm) (a1 : Int) (a2 : Bool) : Option (Tm × Bool) :=
  ifB a2 (
    (f29 n a0).bind fun x1 =>
    k1 a1 x1 (0 : Int) (0 : Int) (0 : Int) (0 : Int)) (
    k1 a1 a0 (0 : Int) (0 : Int) (0 : Int) (0 : Int))
def o131_1 (n : Nat) (t1 : Int) (t3 : Tm) (t6_0 : Int) (t6_1 : Int) (t6_2 : Int) (t6_3 : Int) : Option (Tm × Bool) :=
  (f91 n t3 t1 (0 : Int)).bind fun x2 =>
  some (x2.1, x2.2)
def c131_1 (n : Nat) (t1 : Int) (t3 : Tm) (t6_0 : Int) (t6_1 : Int) (t6_2 : Int) (t6_3 : Int) : Option (Tm × Bool) :=
  o131_1 n t1 t3 t6_0 t6_1 t6_2 t6_3
def f131 (n : Nat) (a0 : Tm) (a1 : Int) (a2 : Bool) : Option (Tm × Bool) := o131_0 n (c131_1 n) a0 a1 a2
def an131 : An := (.n none [] 0 .z (.n (some 1) [(1, .one .c), (3, .ps 0 .tm false), (6, .p 1 [.c, .c, .c, .c, .k])] 2 .z .z))
def F131 : Fn := { f := 131, a := an131, vars := [.cell 6 24, .tmp 7], ps := [.st .tm, .sc .int, .sc .bool], rs := [.st .tm, .sc .bool], own := false, fr := true, nt := 16, D := 3, loops := [] }
def cs131 (n : Nat) : List Cal := [⟨29, [.st .tm], [.st .tm], false, fun a => f29 n a.1⟩, ⟨91, [.st .tm, .sc .int, .sc .int], [.st .tm, .sc .bool], true, fun a => f91 n a.1 a.2.1 a.2.2.1⟩]
def st131_1 (t1 : Int) (t3 : Tm) (t6_0 : Int) (t6_1 : Int) (t6_2 : Int) (t6_3 : Int) : SS := ⟨[(1, .v (.one (.c (.int t1) true))), (3, .v (.one (.ptr 0 0))), (6, .v (.one (.ptr 1 0)))], [(0, some (.bst .tm t3 false)), (1, some (.box [.c (.int t6_0) true, .c (.int t6_1) true, .c (.int t6_2) true, .c (.int t6_3) true, .nils]))], 2⟩
theorem p131_0 (n : Nat) (lab : Nat → SS → Option (RT.den F131.rs)) (x : PTs.den F131.ps) : F131.body (bodyOf Try.f131) tabR tyR true (cs131 n) lab x = o131_0 n (fun t1 t3 t6_0 t6_1 t6_2 t6_3 => lab 1 (st131_1 t1 t3 t6_0 t6_1 t6_2 t6_3)) x.1 x.2.1 x.2.2.1 := by kernel_rfl
theorem p131_1 (n : Nat) (lab : Nat → SS → Option (RT.den F131.rs)) (t1 : Int) (t3 : Tm) (t6_0 : Int) (t6_1 : Int) (t6_2 : Int) (t6_3 : Int) : F131.at (bodyOf Try.f131) tabR tyR true (cs131 n) lab 1 (st131_1 t1 t3 t6_0 t6_1 t6_2 t6_3) = o131_1 n t1 t3 t6_0 t6_1 t6_2 t6_3 := by kernel_rfl
theorem n131_1 (n : Nat) (rec : Nat → SS → Option (RT.den F131.rs)) (d : Nat) (t1 : Int) (t3 : Tm) (t6_0 : Int) (t6_1 : Int) (t6_2 : Int) (t6_3 : Int) : F131.labD (bodyOf Try.f131) tabR tyR true (cs131 n) rec (d + 1) 1 (st131_1 t1 t3 t6_0 t6_1 t6_2 t6_3) = c131_1 n t1 t3 t6_0 t6_1 t6_2 t6_3 := by
  show F131.labD (bodyOf Try.f131) tabR tyR true (cs131 n) rec (d + 1) 1 _ = _
  rw [Fn.labD_succ, p131_1]
  rfl
theorem w131 (n : Nat) (x : PTs.den F131.ps) : F131.body (bodyOf Try.f131) tabR tyR true (cs131 n) (F131.labX (bodyOf Try.f131) tabR tyR true (cs131 n) (F131.labM (bodyOf Try.f131) tabR tyR true (cs131 n) 0) F131.D) x = o131_0 n (c131_1 n) x.1 x.2.1 x.2.2.1 := by
  have e1 : ∀ t1 t3 t6_0 t6_1 t6_2 t6_3, F131.labX (bodyOf Try.f131) tabR tyR true (cs131 n) (F131.labM (bodyOf Try.f131) tabR tyR true (cs131 n) 0) 3 1 (st131_1 t1 t3 t6_0 t6_1 t6_2 t6_3) = c131_1 n t1 t3 t6_0 t6_1 t6_2 t6_3 := fun t1 t3 t6_0 t6_1 t6_2 t6_3 => (Fn.labX_step _ _ _ _ _ _ _ _ _ _ (by kernel_rfl)).trans (n131_1 n (F131.labM (bodyOf Try.f131) tabR tyR true (cs131 n) 0) 2 t1 t3 t6_0 t6_1 t6_2 t6_3)
  show F131.body (bodyOf Try.f131) tabR tyR true (cs131 n) (F131.labX (bodyOf Try.f131) tabR tyR true (cs131 n) (F131.labM (bodyOf Try.f131) tabR tyR true (cs131 n) 0) 3) x = _
  rw [p131_0]
  simp only [e1]
  try rfl
theorem call131 : Callable Try.prog 131 := callable_of Try.func131 (by kernel_rfl) (by kernel_rfl)
theorem ok131 (n : Nat) : Cal.Ok Try.prog ⟨131, F131.ps, F131.rs, F131.fr, fun a => f131 n a.1 a.2.1 a.2.2.1⟩ :=
  cal_of_fn F131 (code := bodyOf Try.f131) Try.func131 (by kernel_rfl) (by kernel_rfl) call131 htabR (cs := cs131 n) (fun c hc => by
      simp only [cs131, List.mem_cons, List.not_mem_nil, or_false] at hc
      rcases hc with rfl | rfl
      · exact ok29 n
      · exact ok91 n) (fun _ => mixed) (by kernel_rfl) (by kernel_rfl) (by decide) (fun x => ⟨0, w131 n x⟩)
-- tranship/transhipref04.plainly
def o132_0 (a0 : Tm) (a1 : Int) : Option Bool :=
  ifB (decide ((12 : Int) < a0.kind)) (
    some true) (
    ifB (decide (a0.kind = (12 : Int))) (
      some (decide (a1 = (2 : Int)))) (
      some false))
def f132 (a0 : Tm) (a1 : Int) : Option Bool := o132_0 a0 a1
def an132 : An := .z
def F132 : Fn := { f := 132, a := an132, vars := [.tmp 4], ps := [.st .tm, .sc .int], rs := [.sc .bool], own := false, fr := true, nt := 17, D := 2, loops := [] }
def cs132 : List Cal := []
theorem p132_0 (lab : Nat → SS → Option (RT.den F132.rs)) (x : PTs.den F132.ps) : F132.body (bodyOf Try.f132) tabR tyR true cs132 lab x = o132_0 x.1 x.2.1 := by kernel_rfl
theorem w132 (x : PTs.den F132.ps) : F132.body (bodyOf Try.f132) tabR tyR true cs132 (F132.labX (bodyOf Try.f132) tabR tyR true cs132 (F132.labM (bodyOf Try.f132) tabR tyR true cs132 0) F132.D) x = o132_0 x.1 x.2.1 := by
  show F132.body (bodyOf Try.f132) tabR tyR true cs132 (F132.labX (bodyOf Try.f132) tabR tyR true cs132 (F132.labM (bodyOf Try.f132) tabR tyR true cs132 0) 2) x = _
  rw [p132_0]
theorem call132 : Callable Try.prog 132 := callable_of Try.func132 (by kernel_rfl) (by kernel_rfl)
theorem ok132 : Cal.Ok Try.prog ⟨132, F132.ps, F132.rs, F132.fr, fun a => f132 a.1 a.2.1⟩ :=
  cal_of_fn F132 (code := bodyOf Try.f132) Try.func132 (by kernel_rfl) (by kernel_rfl) call132 htabR (cs := cs132) (fun c hc => by simp only [cs132, List.not_mem_nil] at hc) (fun _ => mixed) (by kernel_rfl) (by kernel_rfl) (by decide) (fun x => ⟨0, w132 x⟩)
-- tranship/transhipref04.put
def o96_0 (s96 : Tm → Tm → Int → Bool → Option (Tm × Bool)) (n : Nat) (k1 : Int → Bool → Tm → Tm → Int → Int → Int → Int → Int → Int → Int → Int → (List Tm) → Int → Option (Tm × Bool)) (a0 : Tm) (a1 : Tm) (a2 : Int) (a3 : Bool) : Option (Tm × Bool) :=
  ifB (decide (a0.kind = (2 : Int))) (
    ifB (decide (a0.i = a2)) (
      (f131 n a1 a2 a3).bind fun x1 =>
      some (x1.1, x1.2)) (
      ifB (decide (a2 < a0.i)) (
        ckI (a0.i - (1 : Int)) <|
        some ((Tm.mk (2 : Int) (a0.i - (1 : Int)) (0 : Int) (0 : Int) ([] : List Tm)), true)) (
        some (a0, true)))) (
    k1 a2 a3 a0 a1 (0 : Int) (0 : Int) (0 : Int) (0 : Int) a0.kind a0.i a0.j a0.n ([] : List Tm) (0 : Int))
def o96_1 (s96 : Tm → Tm → Int → Bool → Option (Tm × Bool)) (n : Nat) (k2 : Int → Bool → Tm → Tm → Int → Int → Int → Int → Int → Int → Int → Int → (List Tm) → Int → Tm → Bool → Option (Tm × Bool)) (t2 : Int) (t3 : Bool) (t4 : Tm) (t5 : Tm) (t8_0 : Int) (t8_1 : Int) (t8_2 : Int) (t8_3 : Int) (t10_0 : Int) (t10_1 : Int) (t10_2 : Int) (t10_3 : Int) (t11 : List Tm) (t12 : Int) : Option (Tm × Bool) :=
  ifB (decide (t12 < (t4.kids.length : Int))) (
    atI t4.kids t12 fun x2 =>
    (f128 t4.kind t12).bind fun x3 =>
    ckI (t2 + x3) <|
    ifB t3 (
      (s96 x2 t5 (t2 + x3) true).bind fun x4 =>
      k2 t2 t3 t4 t5 t8_0 t8_1 t8_2 t8_3 t10_0 t10_1 t10_2 t10_3 t11 t12 x4.1 x4.2) (
      (f132 t4 t12).bind fun x5 =>
      (s96 x2 t5 (t2 + x3) x5).bind fun x6 =>
      k2 t2 t3 t4 t5 t8_0 t8_1 t8_2 t8_3 t10_0 t10_1 t10_2 t10_3 t11 t12 x6.1 x6.2)) (
    some ((Tm.mk t10_0 t10_1 t10_2 t10_3 t11), true))
def o96_2 (s96 : Tm → Tm → Int → Bool → Option (Tm × Bool)) (n : Nat) (k1 : Int → Bool → Tm → Tm → Int → Int → Int → Int → Int → Int → Int → Int → (List Tm) → Int → Option (Tm × Bool)) (t2 : Int) (t3 : Bool) (t4 : Tm) (t5 : Tm) (t8_0 : Int) (t8_1 : Int) (t8_2 : Int) (t8_3 : Int) (t10_0 : Int) (t10_1 : Int) (t10_2 : Int) (t10_3 : Int) (t11 : List Tm) (t12 : Int) (t13 : Tm) (t14 : Bool) : Option (Tm × Bool) :=
  ifB (!t14) (
    some ((Tm.mk (0 : Int) (0 : Int) (0 : Int) (0 : Int) ([] : List Tm)), false)) (
    ckB (decide ((t11.length + [(Tm.mk t13.kind t13.i t13.j t13.n t13.kids)].length) * 56 ≤ 140737488355328) && decide (t11.length + [(Tm.mk t13.kind t13.i t13.j t13.n t13.kids)].length ≤ 9223372036854775807)) <|
    ckI (t12 + (1 : Int)) <|
    k1 t2 t3 t4 t5 t8_0 t8_1 t8_2 t8_3 t10_0 t10_1 t10_2 t10_3 (t11 ++ [(Tm.mk t13.kind t13.i t13.j t13.n t13.kids)]) (t12 + (1 : Int)))
def c96_2 (s96 : Tm → Tm → Int → Bool → Option (Tm × Bool)) (n : Nat) (k1 : Int → Bool → Tm → Tm → Int → Int → Int → Int → Int → Int → Int → Int → (List Tm) → Int → Option (Tm × Bool)) (t2 : Int) (t3 : Bool) (t4 : Tm) (t5 : Tm) (t8_0 : Int) (t8_1 : Int) (t8_2 : Int) (t8_3 : Int) (t10_0 : Int) (t10_1 : Int) (t10_2 : Int) (t10_3 : Int) (t11 : List Tm) (t12 : Int) (t13 : Tm) (t14 : Bool) : Option (Tm × Bool) :=
  o96_2 s96 n k1 t2 t3 t4 t5 t8_0 t8_1 t8_2 t8_3 t10_0 t10_1 t10_2 t10_3 t11 t12 t13 t14
def l96_1 (s96 : Tm → Tm → Int → Bool → Option (Tm × Bool)) (n : Nat) : Nat → Int → Bool → Tm → Tm → Int → Int → Int → Int → Int → Int → Int → Int → (List Tm) → Int → Option (Tm × Bool)
  | 0, _, _, _, _, _, _, _, _, _, _, _, _, _, _ => none
  | m + 1, t2, t3, t4, t5, t8_0, t8_1, t8_2, t8_3, t10_0, t10_1, t10_2, t10_3, t11, t12 => o96_1 s96 n (c96_2 s96 n (l96_1 s96 n m)) t2 t3 t4 t5 t8_0 t8_1 t8_2 t8_3 t10_0 t10_1 t10_2 t10_3 t11 t12
def f96 : Nat → Tm → Tm → Int → Bool → Option (Tm × Bool)
  | 0, _, _, _, _ => none
  | n + 1, a0, a1, a2, a3 => o96_0 (f96 n) n (l96_1 (f96 n) n n) a0 a1 a2 a3
def an96 : An := (.n none [] 0 .z (.n none [] 0 .z (.n none [] 0 .z (.n none [] 0 .z (.n none [] 0 (.n none [] 0 .z (.n none [] 0 (.n (some 1) [(2, .one .c), (3, .one .c), (4, .ps 0 .tm false), (5, .ps 1 .tm false), (8, .p 2 [.c, .c, .c, .c, .k]), (10, .p 3 [.c, .c, .c, .c, .k]), (11, .one (.r 4 24 .tm false)), (12, .one .c)] 5 (.n none [] 0 .z (.n none [] 0 (.n none [] 0 (.n (some 2) [(2, .one .c), (3, .one .c), (4, .ps 0 .tm false), (5, .ps 1 .tm false), (8, .p 2 [.c, .c, .c, .c, .k]), (10, .p 3 [.c, .c, .c, .c, .k]), (11, .one (.r 4 24 .tm false)), (12, .one .c), (13, .ps 5 .tm false), (14, .one .c)] 6 .z .z) .z) .z)) .z) .z)) .z)))))
def F96 : Fn := { f := 96, a := an96, vars := [.cell 8 24, .tmp 9], ps := [.st .tm, .st .tm, .sc .int, .sc .bool], rs := [.st .tm, .sc .bool], own := false, fr := false, nt := 85, D := 4, loops := [1] }
def cs96 (s96 : Tm → Tm → Int → Bool → Option (Tm × Bool)) (n : Nat) : List Cal := [⟨96, [.st .tm, .st .tm, .sc .int, .sc .bool], [.st .tm, .sc .bool], false, fun a => s96 a.1 a.2.1 a.2.2.1 a.2.2.2.1⟩, ⟨128, [.sc .int, .sc .int], [.sc .int], true, fun a => f128 a.1 a.2.1⟩, ⟨131, [.st .tm, .sc .int, .sc .bool], [.st .tm, .sc .bool], true, fun a => f131 n a.1 a.2.1 a.2.2.1⟩, ⟨132, [.st .tm, .sc .int], [.sc .bool], true, fun a => f132 a.1 a.2.1⟩]
def st96_1 (t2 : Int) (t3 : Bool) (t4 : Tm) (t5 : Tm) (t8_0 : Int) (t8_1 : Int) (t8_2 : Int) (t8_3 : Int) (t10_0 : Int) (t10_1 : Int) (t10_2 : Int) (t10_3 : Int) (t11 : List Tm) (t12 : Int) : SS := ⟨[(2, .v (.one (.c (.int t2) true))), (3, .v (.one (.c (.bool t3) true))), (4, .v (.one (.ptr 0 0))), (5, .v (.one (.ptr 1 0))), (8, .v (.one (.ptr 2 0))), (10, .v (.one (.ptr 3 0))), (11, .v (.one (.arr 4))), (12, .v (.one (.c (.int t12) true)))], [(0, some (.bst .tm t4 false)), (1, some (.bst .tm t5 false)), (2, some (.box [.c (.int t8_0) true, .c (.int t8_1) true, .c (.int t8_2) true, .c (.int t8_3) true, .nils])), (3, some (.box [.c (.int t10_0) true, .c (.int t10_1) true, .c (.int t10_2) true, .c (.int t10_3) true, .nils])), (4, some (.row 24 .tm t11 false))], 5⟩
def st96_2 (t2 : Int) (t3 : Bool) (t4 : Tm) (t5 : Tm) (t8_0 : Int) (t8_1 : Int) (t8_2 : Int) (t8_3 : Int) (t10_0 : Int) (t10_1 : Int) (t10_2 : Int) (t10_3 : Int) (t11 : List Tm) (t12 : Int) (t13 : Tm) (t14 : Bool) : SS := ⟨[(2, .v (.one (.c (.int t2) true))), (3, .v (.one (.c (.bool t3) true))), (4, .v (.one (.ptr 0 0))), (5, .v (.one (.ptr 1 0))), (8, .v (.one (.ptr 2 0))), (10, .v (.one (.ptr 3 0))), (11, .v (.one (.arr 4))), (12, .v (.one (.c (.int t12) true))), (13, .v (.one (.ptr 5 0))), (14, .v (.one (.c (.bool t14) true)))], [(0, some (.bst .tm t4 false)), (1, some (.bst .tm t5 false)), (2, some (.box [.c (.int t8_0) true, .c (.int t8_1) true, .c (.int t8_2) true, .c (.int t8_3) true, .nils])), (3, some (.box [.c (.int t10_0) true, .c (.int t10_1) true, .c (.int t10_2) true, .c (.int t10_3) true, .nils])), (4, some (.row 24 .tm t11 false)), (5, some (.bst .tm t13 false))], 6⟩
theorem p96_0 (s96 : Tm → Tm → Int → Bool → Option (Tm × Bool)) (n : Nat) (lab : Nat → SS → Option (RT.den F96.rs)) (x : PTs.den F96.ps) : F96.body (bodyOf Try.f96) tabR tyR true (cs96 s96 n) lab x = o96_0 s96 n (fun t2 t3 t4 t5 t8_0 t8_1 t8_2 t8_3 t10_0 t10_1 t10_2 t10_3 t11 t12 => lab 1 (st96_1 t2 t3 t4 t5 t8_0 t8_1 t8_2 t8_3 t10_0 t10_1 t10_2 t10_3 t11 t12)) x.1 x.2.1 x.2.2.1 x.2.2.2.1 := by kernel_rfl
theorem p96_1 (s96 : Tm → Tm → Int → Bool → Option (Tm × Bool)) (n : Nat) (lab : Nat → SS → Option (RT.den F96.rs)) (t2 : Int) (t3 : Bool) (t4 : Tm) (t5 : Tm) (t8_0 : Int) (t8_1 : Int) (t8_2 : Int) (t8_3 : Int) (t10_0 : Int) (t10_1 : Int) (t10_2 : Int) (t10_3 : Int) (t11 : List Tm) (t12 : Int) : F96.at (bodyOf Try.f96) tabR tyR true (cs96 s96 n) lab 1 (st96_1 t2 t3 t4 t5 t8_0 t8_1 t8_2 t8_3 t10_0 t10_1 t10_2 t10_3 t11 t12) = o96_1 s96 n (fun t2 t3 t4 t5 t8_0 t8_1 t8_2 t8_3 t10_0 t10_1 t10_2 t10_3 t11 t12 t13 t14 => lab 2 (st96_2 t2 t3 t4 t5 t8_0 t8_1 t8_2 t8_3 t10_0 t10_1 t10_2 t10_3 t11 t12 t13 t14)) t2 t3 t4 t5 t8_0 t8_1 t8_2 t8_3 t10_0 t10_1 t10_2 t10_3 t11 t12 := by kernel_rfl
theorem p96_2 (s96 : Tm → Tm → Int → Bool → Option (Tm × Bool)) (n : Nat) (lab : Nat → SS → Option (RT.den F96.rs)) (t2 : Int) (t3 : Bool) (t4 : Tm) (t5 : Tm) (t8_0 : Int) (t8_1 : Int) (t8_2 : Int) (t8_3 : Int) (t10_0 : Int) (t10_1 : Int) (t10_2 : Int) (t10_3 : Int) (t11 : List Tm) (t12 : Int) (t13 : Tm) (t14 : Bool) : F96.at (bodyOf Try.f96) tabR tyR true (cs96 s96 n) lab 2 (st96_2 t2 t3 t4 t5 t8_0 t8_1 t8_2 t8_3 t10_0 t10_1 t10_2 t10_3 t11 t12 t13 t14) = o96_2 s96 n (fun t2 t3 t4 t5 t8_0 t8_1 t8_2 t8_3 t10_0 t10_1 t10_2 t10_3 t11 t12 => lab 1 (st96_1 t2 t3 t4 t5 t8_0 t8_1 t8_2 t8_3 t10_0 t10_1 t10_2 t10_3 t11 t12)) t2 t3 t4 t5 t8_0 t8_1 t8_2 t8_3 t10_0 t10_1 t10_2 t10_3 t11 t12 t13 t14 := by kernel_rfl
theorem n96_2 (s96 : Tm → Tm → Int → Bool → Option (Tm × Bool)) (n : Nat) (rec : Nat → SS → Option (RT.den F96.rs)) (k1 : Int → Bool → Tm → Tm → Int → Int → Int → Int → Int → Int → Int → Int → (List Tm) → Int → Option (Tm × Bool)) (h1 : ∀ t2 t3 t4 t5 t8_0 t8_1 t8_2 t8_3 t10_0 t10_1 t10_2 t10_3 t11 t12, rec 1 (st96_1 t2 t3 t4 t5 t8_0 t8_1 t8_2 t8_3 t10_0 t10_1 t10_2 t10_3 t11 t12) = k1 t2 t3 t4 t5 t8_0 t8_1 t8_2 t8_3 t10_0 t10_1 t10_2 t10_3 t11 t12) (d : Nat) (t2 : Int) (t3 : Bool) (t4 : Tm) (t5 : Tm) (t8_0 : Int) (t8_1 : Int) (t8_2 : Int) (t8_3 : Int) (t10_0 : Int) (t10_1 : Int) (t10_2 : Int) (t10_3 : Int) (t11 : List Tm) (t12 : Int) (t13 : Tm) (t14 : Bool) : F96.labD (bodyOf Try.f96) tabR tyR true (cs96 s96 n) rec (d + 1) 2 (st96_2 t2 t3 t4 t5 t8_0 t8_1 t8_2 t8_3 t10_0 t10_1 t10_2 t10_3 t11 t12 t13 t14) = c96_2 s96 n k1 t2 t3 t4 t5 t8_0 t8_1 t8_2 t8_3 t10_0 t10_1 t10_2 t10_3 t11 t12 t13 t14 := by
  have e1 : ∀ t2 t3 t4 t5 t8_0 t8_1 t8_2 t8_3 t10_0 t10_1 t10_2 t10_3 t11 t12, F96.labX (bodyOf Try.f96) tabR tyR true (cs96 s96 n) rec d 1 (st96_1 t2 t3 t4 t5 t8_0 t8_1 t8_2 t8_3 t10_0 t10_1 t10_2 t10_3 t11 t12) = k1 t2 t3 t4 t5 t8_0 t8_1 t8_2 t8_3 t10_0 t10_1 t10_2 t10_3 t11 t12 := fun t2 t3 t4 t5 t8_0 t8_1 t8_2 t8_3 t10_0 t10_1 t10_2 t10_3 t11 t12 => (Fn.labX_loop _ _ _ _ _ _ _ _ _ _ (by kernel_rfl)).trans (h1 t2 t3 t4 t5 t8_0 t8_1 t8_2 t8_3 t10_0 t10_1 t10_2 t10_3 t11 t12)
  show F96.labD (bodyOf Try.f96) tabR tyR true (cs96 s96 n) rec (d + 1) 2 _ = _
  rw [Fn.labD_succ, p96_2]
  simp only [e1]
  rfl
theorem m96_1 (s96 : Tm → Tm → Int → Bool → Option (Tm × Bool)) (n : Nat) : ∀ m : Nat, (∀ t2 t3 t4 t5 t8_0 t8_1 t8_2 t8_3 t10_0 t10_1 t10_2 t10_3 t11 t12, F96.labM (bodyOf Try.f96) tabR tyR true (cs96 s96 n) m 1 (st96_1 t2 t3 t4 t5 t8_0 t8_1 t8_2 t8_3 t10_0 t10_1 t10_2 t10_3 t11 t12) = l96_1 s96 n m t2 t3 t4 t5 t8_0 t8_1 t8_2 t8_3 t10_0 t10_1 t10_2 t10_3 t11 t12) := by
  intro m
  induction m with
  | zero => exact fun _ _ _ _ _ _ _ _ _ _ _ _ _ _ => rfl
  | succ m ih =>
    intro t2 t3 t4 t5 t8_0 t8_1 t8_2 t8_3 t10_0 t10_1 t10_2 t10_3 t11 t12
    have e2 : ∀ t2 t3 t4 t5 t8_0 t8_1 t8_2 t8_3 t10_0 t10_1 t10_2 t10_3 t11 t12 t13 t14, F96.labX (bodyOf Try.f96) tabR tyR true (cs96 s96 n) (F96.labM (bodyOf Try.f96) tabR tyR true (cs96 s96 n) m) 3 2 (st96_2 t2 t3 t4 t5 t8_0 t8_1 t8_2 t8_3 t10_0 t10_1 t10_2 t10_3 t11 t12 t13 t14) = c96_2 s96 n (l96_1 s96 n m) t2 t3 t4 t5 t8_0 t8_1 t8_2 t8_3 t10_0 t10_1 t10_2 t10_3 t11 t12 t13 t14 := fun t2 t3 t4 t5 t8_0 t8_1 t8_2 t8_3 t10_0 t10_1 t10_2 t10_3 t11 t12 t13 t14 => (Fn.labX_step _ _ _ _ _ _ _ _ _ _ (by kernel_rfl)).trans (n96_2 s96 n (F96.labM (bodyOf Try.f96) tabR tyR true (cs96 s96 n) m) (l96_1 s96 n m) ih 2 t2 t3 t4 t5 t8_0 t8_1 t8_2 t8_3 t10_0 t10_1 t10_2 t10_3 t11 t12 t13 t14)
    rw [Fn.labM_succ]
    show F96.labD (bodyOf Try.f96) tabR tyR true (cs96 s96 n) (F96.labM (bodyOf Try.f96) tabR tyR true (cs96 s96 n) m) (3 + 1) 1 _ = _
    rw [Fn.labD_succ, p96_1]
    simp only [e2]
    rfl
theorem w96 (s96 : Tm → Tm → Int → Bool → Option (Tm × Bool)) (n : Nat) (x : PTs.den F96.ps) : F96.body (bodyOf Try.f96) tabR tyR true (cs96 s96 n) (F96.labX (bodyOf Try.f96) tabR tyR true (cs96 s96 n) (F96.labM (bodyOf Try.f96) tabR tyR true (cs96 s96 n) n) F96.D) x = o96_0 s96 n (l96_1 s96 n n) x.1 x.2.1 x.2.2.1 x.2.2.2.1 := by
  have e1 : ∀ t2 t3 t4 t5 t8_0 t8_1 t8_2 t8_3 t10_0 t10_1 t10_2 t10_3 t11 t12, F96.labX (bodyOf Try.f96) tabR tyR true (cs96 s96 n) (F96.labM (bodyOf Try.f96) tabR tyR true (cs96 s96 n) n) 4 1 (st96_1 t2 t3 t4 t5 t8_0 t8_1 t8_2 t8_3 t10_0 t10_1 t10_2 t10_3 t11 t12) = (l96_1 s96 n n) t2 t3 t4 t5 t8_0 t8_1 t8_2 t8_3 t10_0 t10_1 t10_2 t10_3 t11 t12 := fun t2 t3 t4 t5 t8_0 t8_1 t8_2 t8_3 t10_0 t10_1 t10_2 t10_3 t11 t12 => (Fn.labX_loop _ _ _ _ _ _ _ _ _ _ (by kernel_rfl)).trans ((m96_1 s96 n n) t2 t3 t4 t5 t8_0 t8_1 t8_2 t8_3 t10_0 t10_1 t10_2 t10_3 t11 t12)
  show F96.body (bodyOf Try.f96) tabR tyR true (cs96 s96 n) (F96.labX (bodyOf Try.f96) tabR tyR true (cs96 s96 n) (F96.labM (bodyOf Try.f96) tabR tyR true (cs96 s96 n) n) 4) x = _
  rw [p96_0]
  simp only [e1]
  try rfl
theorem call96 : Callable Try.prog 96 := callable_of Try.func96 (by kernel_rfl) (by kernel_rfl)
theorem okr96 : ∀ n : Nat, Cal.Ok Try.prog ⟨96, F96.ps, F96.rs, F96.fr, fun a => f96 n a.1 a.2.1 a.2.2.1 a.2.2.2.1⟩
  | 0 => ⟨by kernel_rfl, fun a r h => by cases h⟩
  | n + 1 => cal_of_fn F96 (code := bodyOf Try.f96) Try.func96 (by kernel_rfl) (by kernel_rfl) call96 htabR (cs := cs96 (f96 n) n) (fun c hc => by
      simp only [cs96, List.mem_cons, List.not_mem_nil, or_false] at hc
      rcases hc with rfl | rfl | rfl | rfl
      · exact (okr96 n)
      · exact ok128
      · exact ok131 n
      · exact ok132) (fun _ => mixed) (by kernel_rfl) (by kernel_rfl) (by decide) (fun x => ⟨n, w96 (f96 n) n x⟩)
theorem ok96 (n : Nat) : Cal.Ok Try.prog ⟨96, F96.ps, F96.rs, F96.fr, fun a => f96 n a.1 a.2.1 a.2.2.1 a.2.2.2.1⟩ := (okr96 n)
-- tranship/transhipref04.Put
def o35_0 (n : Nat) (k1 : Tm → Tm → Int → Int → Int → Int → Option Tm) (a0 : Tm) (a1 : Tm) : Option Tm :=
  (f90 n a0).bind fun x1 =>
  ifB (!x1) (
    some (Tm.mk (0 : Int) (0 : Int) (0 : Int) (0 : Int) ([] : List Tm))) (
    (f95 n a0 a1).bind fun x2 =>
    ifB (!x2) (
      some (Tm.mk (0 : Int) (0 : Int) (0 : Int) (0 : Int) ([] : List Tm))) (
      k1 a0 a1 (0 : Int) (0 : Int) (0 : Int) (0 : Int)))
def o35_1 (n : Nat) (t2 : Tm) (t3 : Tm) (t4_0 : Int) (t4_1 : Int) (t4_2 : Int) (t4_3 : Int) : Option Tm :=
  (f96 n t2 t3 (0 : Int) false).bind fun x3 =>
  ifB (!x3.2) (
    some (Tm.mk (0 : Int) (0 : Int) (0 : Int) (0 : Int) ([] : List Tm))) (
    some x3.1)
def c35_1 (n : Nat) (t2 : Tm) (t3 : Tm) (t4_0 : Int) (t4_1 : Int) (t4_2 : Int) (t4_3 : Int) : Option Tm :=
  o35_1 n t2 t3 t4_0 t4_1 t4_2 t4_3
def f35 (n : Nat) (a0 : Tm) (a1 : Tm) : Option Tm := o35_0 n (c35_1 n) a0 a1
def an35 : An := (.n none [] 0 .z (.n (some 1) [(2, .ps 0 .tm false), (3, .ps 1 .tm false), (4, .p 2 [.c, .c, .c, .c, .k])] 3 .z .z))
def F35 : Fn := { f := 35, a := an35, vars := [.cell 4 24], ps := [.st .tm, .st .tm], rs := [.st .tm], own := false, fr := false, nt := 27, D := 3, loops := [] }
def cs35 (n : Nat) : List Cal := [⟨90, [.st .tm], [.sc .bool], true, fun a => f90 n a.1⟩, ⟨95, [.st .tm, .st .tm], [.sc .bool], true, fun a => f95 n a.1 a.2.1⟩, ⟨96, [.st .tm, .st .tm, .sc .int, .sc .bool], [.st .tm, .sc .bool], false, fun a => f96 n a.1 a.2.1 a.2.2.1 a.2.2.2.1⟩]
def st35_1 (t2 : Tm) (t3 : Tm) (t4_0 : Int) (t4_1 : Int) (t4_2 : Int) (t4_3 : Int) : SS := ⟨[(2, .v (.one (.ptr 0 0))), (3, .v (.one (.ptr 1 0))), (4, .v (.one (.ptr 2 0)))], [(0, some (.bst .tm t2 false)), (1, some (.bst .tm t3 false)), (2, some (.box [.c (.int t4_0) true, .c (.int t4_1) true, .c (.int t4_2) true, .c (.int t4_3) true, .nils]))], 3⟩
theorem p35_0 (n : Nat) (lab : Nat → SS → Option (RT.den F35.rs)) (x : PTs.den F35.ps) : F35.body (bodyOf Try.f35) tabR tyR true (cs35 n) lab x = o35_0 n (fun t2 t3 t4_0 t4_1 t4_2 t4_3 => lab 1 (st35_1 t2 t3 t4_0 t4_1 t4_2 t4_3)) x.1 x.2.1 := by kernel_rfl
theorem p35_1 (n : Nat) (lab : Nat → SS → Option (RT.den F35.rs)) (t2 : Tm) (t3 : Tm) (t4_0 : Int) (t4_1 : Int) (t4_2 : Int) (t4_3 : Int) : F35.at (bodyOf Try.f35) tabR tyR true (cs35 n) lab 1 (st35_1 t2 t3 t4_0 t4_1 t4_2 t4_3) = o35_1 n t2 t3 t4_0 t4_1 t4_2 t4_3 := by kernel_rfl
theorem n35_1 (n : Nat) (rec : Nat → SS → Option (RT.den F35.rs)) (d : Nat) (t2 : Tm) (t3 : Tm) (t4_0 : Int) (t4_1 : Int) (t4_2 : Int) (t4_3 : Int) : F35.labD (bodyOf Try.f35) tabR tyR true (cs35 n) rec (d + 1) 1 (st35_1 t2 t3 t4_0 t4_1 t4_2 t4_3) = c35_1 n t2 t3 t4_0 t4_1 t4_2 t4_3 := by
  show F35.labD (bodyOf Try.f35) tabR tyR true (cs35 n) rec (d + 1) 1 _ = _
  rw [Fn.labD_succ, p35_1]
  rfl
theorem w35 (n : Nat) (x : PTs.den F35.ps) : F35.body (bodyOf Try.f35) tabR tyR true (cs35 n) (F35.labX (bodyOf Try.f35) tabR tyR true (cs35 n) (F35.labM (bodyOf Try.f35) tabR tyR true (cs35 n) 0) F35.D) x = o35_0 n (c35_1 n) x.1 x.2.1 := by
  have e1 : ∀ t2 t3 t4_0 t4_1 t4_2 t4_3, F35.labX (bodyOf Try.f35) tabR tyR true (cs35 n) (F35.labM (bodyOf Try.f35) tabR tyR true (cs35 n) 0) 3 1 (st35_1 t2 t3 t4_0 t4_1 t4_2 t4_3) = c35_1 n t2 t3 t4_0 t4_1 t4_2 t4_3 := fun t2 t3 t4_0 t4_1 t4_2 t4_3 => (Fn.labX_step _ _ _ _ _ _ _ _ _ _ (by kernel_rfl)).trans (n35_1 n (F35.labM (bodyOf Try.f35) tabR tyR true (cs35 n) 0) 2 t2 t3 t4_0 t4_1 t4_2 t4_3)
  show F35.body (bodyOf Try.f35) tabR tyR true (cs35 n) (F35.labX (bodyOf Try.f35) tabR tyR true (cs35 n) (F35.labM (bodyOf Try.f35) tabR tyR true (cs35 n) 0) 3) x = _
  rw [p35_0]
  simp only [e1]
  try rfl
theorem call35 : Callable Try.prog 35 := callable_of Try.func35 (by kernel_rfl) (by kernel_rfl)
theorem ok35 (n : Nat) : Cal.Ok Try.prog ⟨35, F35.ps, F35.rs, F35.fr, fun a => f35 n a.1 a.2.1⟩ :=
  cal_of_fn F35 (code := bodyOf Try.f35) Try.func35 (by kernel_rfl) (by kernel_rfl) call35 htabR (cs := cs35 n) (fun c hc => by
      simp only [cs35, List.mem_cons, List.not_mem_nil, or_false] at hc
      rcases hc with rfl | rfl | rfl
      · exact ok90 n
      · exact ok95 n
      · exact ok96 n) (fun _ => mixed) (by kernel_rfl) (by kernel_rfl) (by decide) (fun x => ⟨0, w35 n x⟩)
-- tranship/subst.open
def o133_0 (a0 : Tm) : Option Bool :=
  ifB (decide (a0.kind = (1 : Int))) (
    some true) (
    ifB (decide (a0.kind = (2 : Int))) (
      some true) (
      some (decide ((13 : Int) ≤ a0.kind))))
def f133 (a0 : Tm) : Option Bool := o133_0 a0
def an133 : An := .z
def F133 : Fn := { f := 133, a := an133, vars := [.tmp 2], ps := [.st .tm], rs := [.sc .bool], own := false, fr := true, nt := 16, D := 2, loops := [] }
def cs133 : List Cal := []
theorem p133_0 (lab : Nat → SS → Option (RT.den F133.rs)) (x : PTs.den F133.ps) : F133.body (bodyOf Try.f133) tabR tyR true cs133 lab x = o133_0 x.1 := by kernel_rfl
theorem w133 (x : PTs.den F133.ps) : F133.body (bodyOf Try.f133) tabR tyR true cs133 (F133.labX (bodyOf Try.f133) tabR tyR true cs133 (F133.labM (bodyOf Try.f133) tabR tyR true cs133 0) F133.D) x = o133_0 x.1 := by
  show F133.body (bodyOf Try.f133) tabR tyR true cs133 (F133.labX (bodyOf Try.f133) tabR tyR true cs133 (F133.labM (bodyOf Try.f133) tabR tyR true cs133 0) 2) x = _
  rw [p133_0]
theorem call133 : Callable Try.prog 133 := callable_of Try.func133 (by kernel_rfl) (by kernel_rfl)
theorem ok133 : Cal.Ok Try.prog ⟨133, F133.ps, F133.rs, F133.fr, fun a => f133 a.1⟩ :=
  cal_of_fn F133 (code := bodyOf Try.f133) Try.func133 (by kernel_rfl) (by kernel_rfl) call133 htabR (cs := cs133) (fun c hc => by simp only [cs133, List.not_mem_nil] at hc) (fun _ => mixed) (by kernel_rfl) (by kernel_rfl) (by decide) (fun x => ⟨0, w133 x⟩)
-- (*tranship/subst.putting).at
def o153_0 (n : Nat) (a0 : List Tm × List Tm × Bool × Unit) (a1 : Int) (a2 : Int) (a3 : Bool) : Option (Tm × Bool) :=
  ifB (decide ((a0.1.length : Int) ≤ a1)) (
    ifB (!a0.2.2.1) (
      some ((Tm.mk (0 : Int) (0 : Int) (0 : Int) (0 : Int) ([] : List Tm)), false)) (
      ckI (a1 - (a0.1.length : Int)) <|
      ckI ((a1 - (a0.1.length : Int)) + a2) <|
      (f143 ((a1 - (a0.1.length : Int)) + a2)).bind fun x1 =>
      some (x1, true))) (
    ifB a3 (
      atI a0.2.1 a1 fun x2 =>
      (f92 n x2 a2 (0 : Int)).bind fun x3 =>
      some (x3.1, x3.2)) (
      atI a0.1 a1 fun x4 =>
      (f92 n x4 a2 (0 : Int)).bind fun x5 =>
      some (x5.1, x5.2)))
def f153 (n : Nat) (a0 : List Tm × List Tm × Bool × Unit) (a1 : Int) (a2 : Int) (a3 : Bool) : Option (Tm × Bool) := o153_0 n a0 a1 a2 a3
def an153 : An := .z
def F153 : Fn := { f := 153, a := an153, vars := [.cell 8 24, .tmp 9], ps := [.ro [(true, .tm), (true, .tm), (false, .bool)], .sc .int, .sc .int, .sc .bool], rs := [.st .tm, .sc .bool], own := false, fr := true, nt := 56, D := 2, loops := [] }
def cs153 (n : Nat) : List Cal := [⟨92, [.st .tm, .sc .int, .sc .int], [.st .tm, .sc .bool], true, fun a => f92 n a.1 a.2.1 a.2.2.1⟩, ⟨143, [.sc .int], [.st .tm], true, fun a => f143 a.1⟩]
theorem p153_0 (n : Nat) (lab : Nat → SS → Option (RT.den F153.rs)) (x : PTs.den F153.ps) : F153.body (bodyOf Try.f153) tabR tyR true (cs153 n) lab x = o153_0 n x.1 x.2.1 x.2.2.1 x.2.2.2.1 := by kernel_rfl
theorem w153 (n : Nat) (x : PTs.den F153.ps) : F153.body (bodyOf Try.f153) tabR tyR true (cs153 n) (F153.labX (bodyOf Try.f153) tabR tyR true (cs153 n) (F153.labM (bodyOf Try.f153) tabR tyR true (cs153 n) 0) F153.D) x = o153_0 n x.1 x.2.1 x.2.2.1 x.2.2.2.1 := by
  show F153.body (bodyOf Try.f153) tabR tyR true (cs153 n) (F153.labX (bodyOf Try.f153) tabR tyR true (cs153 n) (F153.labM (bodyOf Try.f153) tabR tyR true (cs153 n) 0) 2) x = _
  rw [p153_0]
theorem call153 : Callable Try.prog 153 := callable_of Try.func153 (by kernel_rfl) (by kernel_rfl)
theorem ok153 (n : Nat) : Cal.Ok Try.prog ⟨153, F153.ps, F153.rs, F153.fr, fun a => f153 n a.1 a.2.1 a.2.2.1 a.2.2.2.1⟩ :=
  cal_of_fn F153 (code := bodyOf Try.f153) Try.func153 (by kernel_rfl) (by kernel_rfl) call153 htabR (cs := cs153 n) (fun c hc => by
      simp only [cs153, List.mem_cons, List.not_mem_nil, or_false] at hc
      rcases hc with rfl | rfl
      · exact ok92 n
      · exact ok143) (fun _ => mixed) (by kernel_rfl) (by kernel_rfl) (by decide) (fun x => ⟨0, w153 n x⟩)
-- (*tranship/subst.putting).walk
def o134_0 (s134 : (List Tm × List Tm × Bool × Unit) → Tm → Int → Bool → Option (Tm × Bool)) (n : Nat) (k1 : (List Tm) → (List Tm) → Bool → Int → Bool → Tm → Int → Int → Int → Int → Bool → Option (Tm × Bool)) (a0 : List Tm × List Tm × Bool × Unit) (a1 : Tm) (a2 : Int) (a3 : Bool) : Option (Tm × Bool) :=
  ifB (decide (a1.kind = (2 : Int))) (
    k1 a0.1 a0.2.1 a0.2.2.1 a2 a3 a1 (0 : Int) (0 : Int) (0 : Int) (0 : Int) (decide (a2 ≤ a1.i))) (
    k1 a0.1 a0.2.1 a0.2.2.1 a2 a3 a1 (0 : Int) (0 : Int) (0 : Int) (0 : Int) false)
def o134_1 (s134 : (List Tm × List Tm × Bool × Unit) → Tm → Int → Bool → Option (Tm × Bool)) (n : Nat) (k2 : (List Tm) → (List Tm) → Bool → Int → Bool → Tm → Int → Int → Int → Int → (List Tm) → (List Tm) → Int → Int → Option (Tm × Bool)) (t0_0 : List Tm) (t0_1 : List Tm) (t0_2 : Bool) (t2 : Int) (t3 : Bool) (t5 : Tm) (t8_0 : Int) (t8_1 : Int) (t8_2 : Int) (t8_3 : Int) (t23 : Bool) : Option (Tm × Bool) :=
  ifB t23 (
    ckI (t5.i - t2) <|
    (f153 n (t0_0, t0_1, t0_2, ()) (t5.i - t2) t2 t3).bind fun x1 =>
    some (x1.1, x1.2)) (
    ifB (decide ((t5.kids.length : Int) = (0 : Int))) (
      some ((Tm.mk t5.kind t5.i t5.j t5.n ([] : List Tm)), true)) (
      ckB (decide (0 ≤ (t5.kids.length : Int)) && (decide ((t5.kids.length : Int) ≤ (t5.kids.length : Int)) && decide ((56 : Nat) * (t5.kids.length : Int) ≤ 281474976710656))) <|
      k2 t0_0 t0_1 t0_2 t2 t3 t5 t8_0 t8_1 t8_2 t8_3 (List.replicate (t5.kids.length : Int).toNat (Tm.mk (0 : Int) (0 : Int) (0 : Int) (0 : Int) ([] : List Tm))) t5.kids (t5.kids.length : Int) (0 : Int)))
def o134_2 (s134 : (List Tm × List Tm × Bool × Unit) → Tm → Int → Bool → Option (Tm × Bool)) (n : Nat) (k3 : (List Tm) → (List Tm) → Bool → Int → Bool → Tm → Int → Int → Int → Int → (List Tm) → Int → Tm → Bool → (List Tm) → Int → Int → Option (Tm × Bool)) (t0_0 : List Tm) (t0_1 : List Tm) (t0_2 : Bool) (t2 : Int) (t3 : Bool) (t5 : Tm) (t8_0 : Int) (t8_1 : Int) (t8_2 : Int) (t8_3 : Int) (t10 : List Tm) (t45 : List Tm) (t46 : Int) (t47 : Int) : Option (Tm × Bool) :=
  ifB (decide (t47 < t46)) (
    atI t45 t47 fun x2 =>
    (f129 t5.kind t47).bind fun x3 =>
    ckI (t2 + x3) <|
    ifB t3 (
      (s134 (t0_0, t0_1, t0_2, ()) x2 (t2 + x3) true).bind fun x4 =>
      k3 t0_0 t0_1 t0_2 t2 t3 t5 t8_0 t8_1 t8_2 t8_3 t10 t47 x4.1 x4.2 t45 t46 t47) (
      ifB (decide (t5.kind = (12 : Int))) (
        (s134 (t0_0, t0_1, t0_2, ()) x2 (t2 + x3) (decide (t47 = (2 : Int)))).bind fun x5 =>
        k3 t0_0 t0_1 t0_2 t2 t3 t5 t8_0 t8_1 t8_2 t8_3 t10 t47 x5.1 x5.2 t45 t46 t47) (
        (s134 (t0_0, t0_1, t0_2, ()) x2 (t2 + x3) false).bind fun x6 =>
        k3 t0_0 t0_1 t0_2 t2 t3 t5 t8_0 t8_1 t8_2 t8_3 t10 t47 x6.1 x6.2 t45 t46 t47))) (
    some ((Tm.mk t5.kind t5.i t5.j t5.n t10), true))
def o134_3 (s134 : (List Tm × List Tm × Bool × Unit) → Tm → Int → Bool → Option (Tm × Bool)) (n : Nat) (k2 : (List Tm) → (List Tm) → Bool → Int → Bool → Tm → Int → Int → Int → Int → (List Tm) → (List Tm) → Int → Int → Option (Tm × Bool)) (t0_0 : List Tm) (t0_1 : List Tm) (t0_2 : Bool) (t2 : Int) (t3 : Bool) (t5 : Tm) (t8_0 : Int) (t8_1 : Int) (t8_2 : Int) (t8_3 : Int) (t10 : List Tm) (t11 : Int) (t13 : Tm) (t14 : Bool) (t45 : List Tm) (t46 : Int) (t47 : Int) : Option (Tm × Bool) :=
  ifB (!t14) (
    some ((Tm.mk (0 : Int) (0 : Int) (0 : Int) (0 : Int) ([] : List Tm)), false)) (
    ckB (decide (0 ≤ t11) && decide (t11 < t10.length)) <|
    ckB (decide (t11.toNat < t10.length)) <|
    ckI (t47 + (1 : Int)) <|
    k2 t0_0 t0_1 t0_2 t2 t3 t5 t8_0 t8_1 t8_2 t8_3 (t10.set t11.toNat (Tm.mk t13.kind t13.i t13.j t13.n t13.kids)) t45 t46 (t47 + (1 : Int)))
def c134_1 (s134 : (List Tm × List Tm × Bool × Unit) → Tm → Int → Bool → Option (Tm × Bool)) (n : Nat) (k2 : (List Tm) → (List Tm) → Bool → Int → Bool → Tm → Int → Int → Int → Int → (List Tm) → (List Tm) → Int → Int → Option (Tm × Bool)) (t0_0 : List Tm) (t0_1 : List Tm) (t0_2 : Bool) (t2 : Int) (t3 : Bool) (t5 : Tm) (t8_0 : Int) (t8_1 : Int) (t8_2 : Int) (t8_3 : Int) (t23 : Bool) : Option (Tm × Bool) :=
  o134_1 s134 n k2 t0_0 t0_1 t0_2 t2 t3 t5 t8_0 t8_1 t8_2 t8_3 t23
def c134_3 (s134 : (List Tm × List Tm × Bool × Unit) → Tm → Int → Bool → Option (Tm × Bool)) (n : Nat) (k2 : (List Tm) → (List Tm) → Bool → Int → Bool → Tm → Int → Int → Int → Int → (List Tm) → (List Tm) → Int → Int → Option (Tm × Bool)) (t0_0 : List Tm) (t0_1 : List Tm) (t0_2 : Bool) (t2 : Int) (t3 : Bool) (t5 : Tm) (t8_0 : Int) (t8_1 : Int) (t8_2 : Int) (t8_3 : Int) (t10 : List Tm) (t11 : Int) (t13 : Tm) (t14 : Bool) (t45 : List Tm) (t46 : Int) (t47 : Int) : Option (Tm × Bool) :=
  o134_3 s134 n k2 t0_0 t0_1 t0_2 t2 t3 t5 t8_0 t8_1 t8_2 t8_3 t10 t11 t13 t14 t45 t46 t47
def l134_2 (s134 : (List Tm × List Tm × Bool × Unit) → Tm → Int → Bool → Option (Tm × Bool)) (n : Nat) : Nat → (List Tm) → (List Tm) → Bool → Int → Bool → Tm → Int → Int → Int → Int → (List Tm) → (List Tm) → Int → Int → Option (Tm × Bool)
  | 0, _, _, _, _, _, _, _, _, _, _, _, _, _, _ => none
  | m + 1, t0_0, t0_1, t0_2, t2, t3, t5, t8_0, t8_1, t8_2, t8_3, t10, t45, t46, t47 => o134_2 s134 n (c134_3 s134 n (l134_2 s134 n m)) t0_0 t0_1 t0_2 t2 t3 t5 t8_0 t8_1 t8_2 t8_3 t10 t45 t46 t47
def f134 : Nat → (List Tm × List Tm × Bool × Unit) → Tm → Int → Bool → Option (Tm × Bool)
  | 0, _, _, _, _ => none
  | n + 1, a0, a1, a2, a3 => o134_0 (f134 n) n (c134_1 (f134 n) n (l134_2 (f134 n) n n)) a0 a1 a2 a3
def an134 : An := (.n none [] 0 .z (.n none [] 0 (.n (some 1) [(0, .one .k), (2, .one .c), (3, .one .c), (5, .ps 0 .tm false), (8, .p 1 [.c, .c, .c, .c, .k]), (23, .one .c)] 2 .z .z) (.n none [] 0 .z (.n none [] 0 .z (.n none [] 0 (.n none [] 0 .z (.n none [] 0 (.n (some 2) [(0, .one .k), (2, .one .c), (3, .one .c), (5, .ps 0 .tm false), (8, .p 1 [.c, .c, .c, .c, .k]), (10, .one (.r 2 24 .tm true)), (45, .one (.d .tm false)), (46, .one .c), (47, .one .c)] 3 (.n none [] 0 .z (.n none [] 0 .z (.n none [] 0 (.n none [] 0 (.n none [] 0 .z (.n (some 3) [(0, .one .k), (2, .one .c), (3, .one .c), (5, .ps 0 .tm false), (8, .p 1 [.c, .c, .c, .c, .k]), (10, .one (.r 2 24 .tm true)), (11, .one .c), (13, .ps 3 .tm true), (14, .one .c), (45, .one (.d .tm false)), (46, .one .c), (47, .one .c)] 4 .z .z)) .z) .z))) .z) .z)) .z)))))
def F134 : Fn := { f := 134, a := an134, vars := [.cell 8 24, .tmp 9], ps := [.ro [(true, .tm), (true, .tm), (false, .bool)], .st .tm, .sc .int, .sc .bool], rs := [.st .tm, .sc .bool], own := false, fr := true, nt := 85, D := 5, loops := [2] }
def cs134 (s134 : (List Tm × List Tm × Bool × Unit) → Tm → Int → Bool → Option (Tm × Bool)) (n : Nat) : List Cal := [⟨129, [.sc .int, .sc .int], [.sc .int], true, fun a => f129 a.1 a.2.1⟩, ⟨134, [.ro [(true, .tm), (true, .tm), (false, .bool)], .st .tm, .sc .int, .sc .bool], [.st .tm, .sc .bool], true, fun a => s134 a.1 a.2.1 a.2.2.1 a.2.2.2.1⟩, ⟨153, [.ro [(true, .tm), (true, .tm), (false, .bool)], .sc .int, .sc .int, .sc .bool], [.st .tm, .sc .bool], true, fun a => f153 n a.1 a.2.1 a.2.2.1 a.2.2.2.1⟩]
def st134_1 (t0_0 : List Tm) (t0_1 : List Tm) (t0_2 : Bool) (t2 : Int) (t3 : Bool) (t5 : Tm) (t8_0 : Int) (t8_1 : Int) (t8_2 : Int) (t8_3 : Int) (t23 : Bool) : SS := ⟨[(0, .v (.one (.rc [.sl .tm t0_0, .sl .tm t0_1, .bool t0_2]))), (2, .v (.one (.c (.int t2) true))), (3, .v (.one (.c (.bool t3) true))), (5, .v (.one (.ptr 0 0))), (8, .v (.one (.ptr 1 0))), (23, .v (.one (.c (.bool t23) true)))], [(0, some (.bst .tm t5 false)), (1, some (.box [.c (.int t8_0) true, .c (.int t8_1) true, .c (.int t8_2) true, .c (.int t8_3) true, .nils]))], 2⟩
def st134_2 (t0_0 : List Tm) (t0_1 : List Tm) (t0_2 : Bool) (t2 : Int) (t3 : Bool) (t5 : Tm) (t8_0 : Int) (t8_1 : Int) (t8_2 : Int) (t8_3 : Int) (t10 : List Tm) (t45 : List Tm) (t46 : Int) (t47 : Int) : SS := ⟨[(0, .v (.one (.rc [.sl .tm t0_0, .sl .tm t0_1, .bool t0_2]))), (2, .v (.one (.c (.int t2) true))), (3, .v (.one (.c (.bool t3) true))), (5, .v (.one (.ptr 0 0))), (8, .v (.one (.ptr 1 0))), (10, .v (.one (.arr 2))), (45, .v (.one (.c (.sl .tm t45) false))), (46, .v (.one (.c (.int t46) true))), (47, .v (.one (.c (.int t47) true)))], [(0, some (.bst .tm t5 false)), (1, some (.box [.c (.int t8_0) true, .c (.int t8_1) true, .c (.int t8_2) true, .c (.int t8_3) true, .nils])), (2, some (.row 24 .tm t10 true))], 3⟩
def st134_3 (t0_0 : List Tm) (t0_1 : List Tm) (t0_2 : Bool) (t2 : Int) (t3 : Bool) (t5 : Tm) (t8_0 : Int) (t8_1 : Int) (t8_2 : Int) (t8_3 : Int) (t10 : List Tm) (t11 : Int) (t13 : Tm) (t14 : Bool) (t45 : List Tm) (t46 : Int) (t47 : Int) : SS := ⟨[(0, .v (.one (.rc [.sl .tm t0_0, .sl .tm t0_1, .bool t0_2]))), (2, .v (.one (.c (.int t2) true))), (3, .v (.one (.c (.bool t3) true))), (5, .v (.one (.ptr 0 0))), (8, .v (.one (.ptr 1 0))), (10, .v (.one (.arr 2))), (11, .v (.one (.c (.int t11) true))), (13, .v (.one (.ptr 3 0))), (14, .v (.one (.c (.bool t14) true))), (45, .v (.one (.c (.sl .tm t45) false))), (46, .v (.one (.c (.int t46) true))), (47, .v (.one (.c (.int t47) true)))], [(0, some (.bst .tm t5 false)), (1, some (.box [.c (.int t8_0) true, .c (.int t8_1) true, .c (.int t8_2) true, .c (.int t8_3) true, .nils])), (2, some (.row 24 .tm t10 true)), (3, some (.bst .tm t13 true))], 4⟩
theorem p134_0 (s134 : (List Tm × List Tm × Bool × Unit) → Tm → Int → Bool → Option (Tm × Bool)) (n : Nat) (lab : Nat → SS → Option (RT.den F134.rs)) (x : PTs.den F134.ps) : F134.body (bodyOf Try.f134) tabR tyR true (cs134 s134 n) lab x = o134_0 s134 n (fun t0_0 t0_1 t0_2 t2 t3 t5 t8_0 t8_1 t8_2 t8_3 t23 => lab 1 (st134_1 t0_0 t0_1 t0_2 t2 t3 t5 t8_0 t8_1 t8_2 t8_3 t23)) x.1 x.2.1 x.2.2.1 x.2.2.2.1 := by kernel_rfl
theorem p134_1 (s134 : (List Tm × List Tm × Bool × Unit) → Tm → Int → Bool → Option (Tm × Bool)) (n : Nat) (lab : Nat → SS → Option (RT.den F134.rs)) (t0_0 : List Tm) (t0_1 : List Tm) (t0_2 : Bool) (t2 : Int) (t3 : Bool) (t5 : Tm) (t8_0 : Int) (t8_1 : Int) (t8_2 : Int) (t8_3 : Int) (t23 : Bool) : F134.at (bodyOf Try.f134) tabR tyR true (cs134 s134 n) lab 1 (st134_1 t0_0 t0_1 t0_2 t2 t3 t5 t8_0 t8_1 t8_2 t8_3 t23) = o134_1 s134 n (fun t0_0 t0_1 t0_2 t2 t3 t5 t8_0 t8_1 t8_2 t8_3 t10 t45 t46 t47 => lab 2 (st134_2 t0_0 t0_1 t0_2 t2 t3 t5 t8_0 t8_1 t8_2 t8_3 t10 t45 t46 t47)) t0_0 t0_1 t0_2 t2 t3 t5 t8_0 t8_1 t8_2 t8_3 t23 := by kernel_rfl
theorem p134_2 (s134 : (List Tm × List Tm × Bool × Unit) → Tm → Int → Bool → Option (Tm × Bool)) (n : Nat) (lab : Nat → SS → Option (RT.den F134.rs)) (t0_0 : List Tm) (t0_1 : List Tm) (t0_2 : Bool) (t2 : Int) (t3 : Bool) (t5 : Tm) (t8_0 : Int) (t8_1 : Int) (t8_2 : Int) (t8_3 : Int) (t10 : List Tm) (t45 : List Tm) (t46 : Int) (t47 : Int) : F134.at (bodyOf Try.f134) tabR tyR true (cs134 s134 n) lab 2 (st134_2 t0_0 t0_1 t0_2 t2 t3 t5 t8_0 t8_1 t8_2 t8_3 t10 t45 t46 t47) = o134_2 s134 n (fun t0_0 t0_1 t0_2 t2 t3 t5 t8_0 t8_1 t8_2 t8_3 t10 t11 t13 t14 t45 t46 t47 => lab 3 (st134_3 t0_0 t0_1 t0_2 t2 t3 t5 t8_0 t8_1 t8_2 t8_3 t10 t11 t13 t14 t45 t46 t47)) t0_0 t0_1 t0_2 t2 t3 t5 t8_0 t8_1 t8_2 t8_3 t10 t45 t46 t47 := by kernel_rfl
theorem p134_3 (s134 : (List Tm × List Tm × Bool × Unit) → Tm → Int → Bool → Option (Tm × Bool)) (n : Nat) (lab : Nat → SS → Option (RT.den F134.rs)) (t0_0 : List Tm) (t0_1 : List Tm) (t0_2 : Bool) (t2 : Int) (t3 : Bool) (t5 : Tm) (t8_0 : Int) (t8_1 : Int) (t8_2 : Int) (t8_3 : Int) (t10 : List Tm) (t11 : Int) (t13 : Tm) (t14 : Bool) (t45 : List Tm) (t46 : Int) (t47 : Int) : F134.at (bodyOf Try.f134) tabR tyR true (cs134 s134 n) lab 3 (st134_3 t0_0 t0_1 t0_2 t2 t3 t5 t8_0 t8_1 t8_2 t8_3 t10 t11 t13 t14 t45 t46 t47) = o134_3 s134 n (fun t0_0 t0_1 t0_2 t2 t3 t5 t8_0 t8_1 t8_2 t8_3 t10 t45 t46 t47 => lab 2 (st134_2 t0_0 t0_1 t0_2 t2 t3 t5 t8_0 t8_1 t8_2 t8_3 t10 t45 t46 t47)) t0_0 t0_1 t0_2 t2 t3 t5 t8_0 t8_1 t8_2 t8_3 t10 t11 t13 t14 t45 t46 t47 := by kernel_rfl
theorem n134_1 (s134 : (List Tm × List Tm × Bool × Unit) → Tm → Int → Bool → Option (Tm × Bool)) (n : Nat) (rec : Nat → SS → Option (RT.den F134.rs)) (k2 : (List Tm) → (List Tm) → Bool → Int → Bool → Tm → Int → Int → Int → Int → (List Tm) → (List Tm) → Int → Int → Option (Tm × Bool)) (h2 : ∀ t0_0 t0_1 t0_2 t2 t3 t5 t8_0 t8_1 t8_2 t8_3 t10 t45 t46 t47, rec 2 (st134_2 t0_0 t0_1 t0_2 t2 t3 t5 t8_0 t8_1 t8_2 t8_3 t10 t45 t46 t47) = k2 t0_0 t0_1 t0_2 t2 t3 t5 t8_0 t8_1 t8_2 t8_3 t10 t45 t46 t47) (d : Nat) (t0_0 : List Tm) (t0_1 : List Tm) (t0_2 : Bool) (t2 : Int) (t3 : Bool) (t5 : Tm) (t8_0 : Int) (t8_1 : Int) (t8_2 : Int) (t8_3 : Int) (t23 : Bool) : F134.labD (bodyOf Try.f134) tabR tyR true (cs134 s134 n) rec (d + 1) 1 (st134_1 t0_0 t0_1 t0_2 t2 t3 t5 t8_0 t8_1 t8_2 t8_3 t23) = c134_1 s134 n k2 t0_0 t0_1 t0_2 t2 t3 t5 t8_0 t8_1 t8_2 t8_3 t23 := by
  have e2 : ∀ t0_0 t0_1 t0_2 t2 t3 t5 t8_0 t8_1 t8_2 t8_3 t10 t45 t46 t47, F134.labX (bodyOf Try.f134) tabR tyR true (cs134 s134 n) rec d 2 (st134_2 t0_0 t0_1 t0_2 t2 t3 t5 t8_0 t8_1 t8_2 t8_3 t10 t45 t46 t47) = k2 t0_0 t0_1 t0_2 t2 t3 t5 t8_0 t8_1 t8_2 t8_3 t10 t45 t46 t47 := fun t0_0 t0_1 t0_2 t2 t3 t5 t8_0 t8_1 t8_2 t8_3 t10 t45 t46 t47 => (Fn.labX_loop _ _ _ _ _ _ _ _ _ _ (by kernel_rfl)).trans (h2 t0_0 t0_1 t0_2 t2 t3 t5 t8_0 t8_1 t8_2 t8_3 t10 t45 t46 t47)
  show F134.labD (bodyOf Try.f134) tabR tyR true (cs134 s134 n) rec (d + 1) 1 _ = _
  rw [Fn.labD_succ, p134_1]
  simp only [e2]
  rfl
theorem n134_3 (s134 : (List Tm × List Tm × Bool × Unit) → Tm → Int → Bool → Option (Tm × Bool)) (n : Nat) (rec : Nat → SS → Option (RT.den F134.rs)) (k2 : (List Tm) → (List Tm) → Bool → Int → Bool → Tm → Int → Int → Int → Int → (List Tm) → (List Tm) → Int → Int → Option (Tm × Bool)) (h2 : ∀ t0_0 t0_1 t0_2 t2 t3 t5 t8_0 t8_1 t8_2 t8_3 t10 t45 t46 t47, rec 2 (st134_2 t0_0 t0_1 t0_2 t2 t3 t5 t8_0 t8_1 t8_2 t8_3 t10 t45 t46 t47) = k2 t0_0 t0_1 t0_2 t2 t3 t5 t8_0 t8_1 t8_2 t8_3 t10 t45 t46 t47) (d : Nat) (t0_0 : List Tm) (t0_1 : List Tm) (t0_2 : Bool) (t2 : Int) (t3 : Bool) (t5 : Tm) (t8_0 : Int) (t8_1 : Int) (t8_2 : Int) (t8_3 : Int) (t10 : List Tm) (t11 : Int) (t13 : Tm) (t14 : Bool) (t45 : List Tm) (t46 : Int) (t47 : Int) : F134.labD (bodyOf Try.f134) tabR tyR true (cs134 s134 n) rec (d + 1) 3 (st134_3 t0_0 t0_1 t0_2 t2 t3 t5 t8_0 t8_1 t8_2 t8_3 t10 t11 t13 t14 t45 t46 t47) = c134_3 s134 n k2 t0_0 t0_1 t0_2 t2 t3 t5 t8_0 t8_1 t8_2 t8_3 t10 t11 t13 t14 t45 t46 t47 := by
  have e2 : ∀ t0_0 t0_1 t0_2 t2 t3 t5 t8_0 t8_1 t8_2 t8_3 t10 t45 t46 t47, F134.labX (bodyOf Try.f134) tabR tyR true (cs134 s134 n) rec d 2 (st134_2 t0_0 t0_1 t0_2 t2 t3 t5 t8_0 t8_1 t8_2 t8_3 t10 t45 t46 t47) = k2 t0_0 t0_1 t0_2 t2 t3 t5 t8_0 t8_1 t8_2 t8_3 t10 t45 t46 t47 := fun t0_0 t0_1 t0_2 t2 t3 t5 t8_0 t8_1 t8_2 t8_3 t10 t45 t46 t47 => (Fn.labX_loop _ _ _ _ _ _ _ _ _ _ (by kernel_rfl)).trans (h2 t0_0 t0_1 t0_2 t2 t3 t5 t8_0 t8_1 t8_2 t8_3 t10 t45 t46 t47)
  show F134.labD (bodyOf Try.f134) tabR tyR true (cs134 s134 n) rec (d + 1) 3 _ = _
  rw [Fn.labD_succ, p134_3]
  simp only [e2]
  rfl
theorem m134_2 (s134 : (List Tm × List Tm × Bool × Unit) → Tm → Int → Bool → Option (Tm × Bool)) (n : Nat) : ∀ m : Nat, (∀ t0_0 t0_1 t0_2 t2 t3 t5 t8_0 t8_1 t8_2 t8_3 t10 t45 t46 t47, F134.labM (bodyOf Try.f134) tabR tyR true (cs134 s134 n) m 2 (st134_2 t0_0 t0_1 t0_2 t2 t3 t5 t8_0 t8_1 t8_2 t8_3 t10 t45 t46 t47) = l134_2 s134 n m t0_0 t0_1 t0_2 t2 t3 t5 t8_0 t8_1 t8_2 t8_3 t10 t45 t46 t47) := by
  intro m
  induction m with
  | zero => exact fun _ _ _ _ _ _ _ _ _ _ _ _ _ _ => rfl
  | succ m ih =>
    intro t0_0 t0_1 t0_2 t2 t3 t5 t8_0 t8_1 t8_2 t8_3 t10 t45 t46 t47
    have e3 : ∀ t0_0 t0_1 t0_2 t2 t3 t5 t8_0 t8_1 t8_2 t8_3 t10 t11 t13 t14 t45 t46 t47, F134.labX (bodyOf Try.f134) tabR tyR true (cs134 s134 n) (F134.labM (bodyOf Try.f134) tabR tyR true (cs134 s134 n) m) 4 3 (st134_3 t0_0 t0_1 t0_2 t2 t3 t5 t8_0 t8_1 t8_2 t8_3 t10 t11 t13 t14 t45 t46 t47) = c134_3 s134 n (l134_2 s134 n m) t0_0 t0_1 t0_2 t2 t3 t5 t8_0 t8_1 t8_2 t8_3 t10 t11 t13 t14 t45 t46 t47 := fun t0_0 t0_1 t0_2 t2 t3 t5 t8_0 t8_1 t8_2 t8_3 t10 t11 t13 t14 t45 t46 t47 => (Fn.labX_step _ _ _ _ _ _ _ _ _ _ (by kernel_rfl)).trans (n134_3 s134 n (F134.labM (bodyOf Try.f134) tabR tyR true (cs134 s134 n) m) (l134_2 s134 n m) ih 3 t0_0 t0_1 t0_2 t2 t3 t5 t8_0 t8_1 t8_2 t8_3 t10 t11 t13 t14 t45 t46 t47)
    rw [Fn.labM_succ]
    show F134.labD (bodyOf Try.f134) tabR tyR true (cs134 s134 n) (F134.labM (bodyOf Try.f134) tabR tyR true (cs134 s134 n) m) (4 + 1) 2 _ = _
    rw [Fn.labD_succ, p134_2]
    simp only [e3]
    rfl
theorem w134 (s134 : (List Tm × List Tm × Bool × Unit) → Tm → Int → Bool → Option (Tm × Bool)) (n : Nat) (x : PTs.den F134.ps) : F134.body (bodyOf Try.f134) tabR tyR true (cs134 s134 n) (F134.labX (bodyOf Try.f134) tabR tyR true (cs134 s134 n) (F134.labM (bodyOf Try.f134) tabR tyR true (cs134 s134 n) n) F134.D) x = o134_0 s134 n (c134_1 s134 n (l134_2 s134 n n)) x.1 x.2.1 x.2.2.1 x.2.2.2.1 := by
  have e1 : ∀ t0_0 t0_1 t0_2 t2 t3 t5 t8_0 t8_1 t8_2 t8_3 t23, F134.labX (bodyOf Try.f134) tabR tyR true (cs134 s134 n) (F134.labM (bodyOf Try.f134) tabR tyR true (cs134 s134 n) n) 5 1 (st134_1 t0_0 t0_1 t0_2 t2 t3 t5 t8_0 t8_1 t8_2 t8_3 t23) = c134_1 s134 n (l134_2 s134 n n) t0_0 t0_1 t0_2 t2 t3 t5 t8_0 t8_1 t8_2 t8_3 t23 := fun t0_0 t0_1 t0_2 t2 t3 t5 t8_0 t8_1 t8_2 t8_3 t23 => (Fn.labX_step _ _ _ _ _ _ _ _ _ _ (by kernel_rfl)).trans (n134_1 s134 n (F134.labM (bodyOf Try.f134) tabR tyR true (cs134 s134 n) n) (l134_2 s134 n n) (m134_2 s134 n n) 4 t0_0 t0_1 t0_2 t2 t3 t5 t8_0 t8_1 t8_2 t8_3 t23)
  show F134.body (bodyOf Try.f134) tabR tyR true (cs134 s134 n) (F134.labX (bodyOf Try.f134) tabR tyR true (cs134 s134 n) (F134.labM (bodyOf Try.f134) tabR tyR true (cs134 s134 n) n) 5) x = _
  rw [p134_0]
  simp only [e1]
  try rfl
theorem call134 : Callable Try.prog 134 := callable_of Try.func134 (by kernel_rfl) (by kernel_rfl)
theorem okr134 : ∀ n : Nat, Cal.Ok Try.prog ⟨134, F134.ps, F134.rs, F134.fr, fun a => f134 n a.1 a.2.1 a.2.2.1 a.2.2.2.1⟩
  | 0 => ⟨by kernel_rfl, fun a r h => by cases h⟩
  | n + 1 => cal_of_fn F134 (code := bodyOf Try.f134) Try.func134 (by kernel_rfl) (by kernel_rfl) call134 htabR (cs := cs134 (f134 n) n) (fun c hc => by
      simp only [cs134, List.mem_cons, List.not_mem_nil, or_false] at hc
      rcases hc with rfl | rfl | rfl
      · exact ok129
      · exact (okr134 n)
      · exact ok153 n) (fun _ => mixed) (by kernel_rfl) (by kernel_rfl) (by decide) (fun x => ⟨n, w134 (f134 n) n x⟩)
theorem ok134 (n : Nat) : Cal.Ok Try.prog ⟨134, F134.ps, F134.rs, F134.fr, fun a => f134 n a.1 a.2.1 a.2.2.1 a.2.2.2.1⟩ := (okr134 n)
-- tranship/subst.put
def o97_0 (n : Nat) (k1 : Tm → Int → Int → Int → Int → (List Tm) → (List Tm) → Bool → (List Tm) → Int → Int → Option (Tm × Bool)) (a0 : Tm) (a1 : List Tm) (a2 : Bool) : Option (Tm × Bool) :=
  k1 a0 (0 : Int) (0 : Int) (0 : Int) (0 : Int) a1 ([] : List Tm) a2 a1 (a1.length : Int) (0 : Int)
def o97_1 (n : Nat) (k2 : Tm → Int → Int → Int → Int → (List Tm) → (List Tm) → Bool → Tm → (List Tm) → Int → Int → Option (Tm × Bool)) (t3 : Tm) (t6_0 : Int) (t6_1 : Int) (t6_2 : Int) (t6_3 : Int) (t8_0 : List Tm) (t8_1 : List Tm) (t8_2 : Bool) (t15 : List Tm) (t16 : Int) (t17 : Int) : Option (Tm × Bool) :=
  ifB (decide (t17 < t16)) (
    atI t15 t17 fun x1 =>
    (f87 n x1).bind fun x2 =>
    ifB (!x2) (
      some ((Tm.mk (0 : Int) (0 : Int) (0 : Int) (0 : Int) ([] : List Tm)), false)) (
      (f133 t3).bind fun x3 =>
      ifB (!x3) (
        ifB (decide ((13 : Int) ≤ x1.kind)) (
          some ((Tm.mk (0 : Int) (0 : Int) (0 : Int) (0 : Int) ([] : List Tm)), false)) (
          k2 t3 t6_0 t6_1 t6_2 t6_3 t8_0 t8_1 t8_2 x1 t15 t16 t17)) (
        k2 t3 t6_0 t6_1 t6_2 t6_3 t8_0 t8_1 t8_2 x1 t15 t16 t17))) (
    (f134 n (t8_0, t8_1, t8_2, ()) t3 (0 : Int) (decide ((13 : Int) ≤ t3.kind))).bind fun x4 =>
    some (x4.1, x4.2))
def o97_2 (n : Nat) (k1 : Tm → Int → Int → Int → Int → (List Tm) → (List Tm) → Bool → (List Tm) → Int → Int → Option (Tm × Bool)) (t3 : Tm) (t6_0 : Int) (t6_1 : Int) (t6_2 : Int) (t6_3 : Int) (t8_0 : List Tm) (t8_1 : List Tm) (t8_2 : Bool) (t10 : Tm) (t15 : List Tm) (t16 : Int) (t17 : Int) : Option (Tm × Bool) :=
  (f30 n t10).bind fun x5 =>
  ckB (decide ((t8_1.length + [(Tm.mk (0 : Int) (0 : Int) (0 : Int) (0 : Int) ([] : List Tm))].length) * 56 ≤ 140737488355328) && decide (t8_1.length + [(Tm.mk (0 : Int) (0 : Int) (0 : Int) (0 : Int) ([] : List Tm))].length ≤ 9223372036854775807)) <|
  ckB (decide (0 ≤ (t8_1.length : Int)) && decide ((t8_1.length : Int) < (t8_1 ++ [(Tm.mk (0 : Int) (0 : Int) (0 : Int) (0 : Int) ([] : List Tm))]).length)) <|
  ckB (decide ((t8_1.length : Int).toNat < (t8_1 ++ [(Tm.mk (0 : Int) (0 : Int) (0 : Int) (0 : Int) ([] : List Tm))]).length)) <|
  ckI (t17 + (1 : Int)) <|
  k1 t3 t6_0 t6_1 t6_2 t6_3 t8_0 ((t8_1 ++ [(Tm.mk (0 : Int) (0 : Int) (0 : Int) (0 : Int) ([] : List Tm))]).set (t8_1.length : Int).toNat (Tm.mk x5.kind x5.i x5.j x5.n x5.kids)) t8_2 t15 t16 (t17 + (1 : Int))
def c97_2 (n : Nat) (k1 : Tm → Int → Int → Int → Int → (List Tm) → (List Tm) → Bool → (List Tm) → Int → Int → Option (Tm × Bool)) (t3 : Tm) (t6_0 : Int) (t6_1 : Int) (t6_2 : Int) (t6_3 : Int) (t8_0 : List Tm) (t8_1 : List Tm) (t8_2 : Bool) (t10 : Tm) (t15 : List Tm) (t16 : Int) (t17 : Int) : Option (Tm × Bool) :=
  o97_2 n k1 t3 t6_0 t6_1 t6_2 t6_3 t8_0 t8_1 t8_2 t10 t15 t16 t17
def l97_1 (n : Nat) : Nat → Tm → Int → Int → Int → Int → (List Tm) → (List Tm) → Bool → (List Tm) → Int → Int → Option (Tm × Bool)
  | 0, _, _, _, _, _, _, _, _, _, _, _ => none
  | m + 1, t3, t6_0, t6_1, t6_2, t6_3, t8_0, t8_1, t8_2, t15, t16, t17 => o97_1 n (c97_2 n (l97_1 n m)) t3 t6_0 t6_1 t6_2 t6_3 t8_0 t8_1 t8_2 t15 t16 t17
def f97 (n : Nat) (a0 : Tm) (a1 : List Tm) (a2 : Bool) : Option (Tm × Bool) := o97_0 n (l97_1 n n) a0 a1 a2
def an97 : An := (.n none [] 0 .z (.n none [] 0 .z (.n none [] 0 (.n none [] 0 .z (.n none [] 0 (.n (some 1) [(3, .ps 0 .tm false), (6, .p 1 [.c, .c, .c, .c, .k]), (8, .p 2 [.d .tm false, .r 3 24 .tm false, .c]), (15, .one (.d .tm false)), (16, .one .c), (17, .one .c)] 4 (.n none [] 0 .z (.n none [] 0 .z (.n none [] 0 (.n none [] 0 (.n none [] 0 .z (.n (some 2) [(3, .ps 0 .tm false), (6, .p 1 [.c, .c, .c, .c, .k]), (8, .p 2 [.d .tm false, .r 3 24 .tm false, .c]), (10, .ps 4 .tm false), (15, .one (.d .tm false)), (16, .one .c), (17, .one .c)] 5 .z .z)) .z) .z))) .z) .z)) .z)))
def F97 : Fn := { f := 97, a := an97, vars := [.cell 6 24, .tmp 7], ps := [.st .tm, .sl .tm, .sc .bool], rs := [.st .tm, .sc .bool], own := false, fr := true, nt := 56, D := 4, loops := [1] }
def cs97 (n : Nat) : List Cal := [⟨30, [.st .tm], [.st .tm], false, fun a => f30 n a.1⟩, ⟨87, [.st .tm], [.sc .bool], true, fun a => f87 n a.1⟩, ⟨133, [.st .tm], [.sc .bool], true, fun a => f133 a.1⟩, ⟨134, [.ro [(true, .tm), (true, .tm), (false, .bool)], .st .tm, .sc .int, .sc .bool], [.st .tm, .sc .bool], true, fun a => f134 n a.1 a.2.1 a.2.2.1 a.2.2.2.1⟩]
def st97_1 (t3 : Tm) (t6_0 : Int) (t6_1 : Int) (t6_2 : Int) (t6_3 : Int) (t8_0 : List Tm) (t8_1 : List Tm) (t8_2 : Bool) (t15 : List Tm) (t16 : Int) (t17 : Int) : SS := ⟨[(3, .v (.one (.ptr 0 0))), (6, .v (.one (.ptr 1 0))), (8, .v (.one (.ptr 2 0))), (15, .v (.one (.c (.sl .tm t15) false))), (16, .v (.one (.c (.int t16) true))), (17, .v (.one (.c (.int t17) true)))], [(0, some (.bst .tm t3 false)), (1, some (.box [.c (.int t6_0) true, .c (.int t6_1) true, .c (.int t6_2) true, .c (.int t6_3) true, .nils])), (2, some (.box [.c (.sl .tm t8_0) false, .arr 3, .c (.bool t8_2) true])), (3, some (.row 24 .tm t8_1 false))], 4⟩
def st97_2 (t3 : Tm) (t6_0 : Int) (t6_1 : Int) (t6_2 : Int) (t6_3 : Int) (t8_0 : List Tm) (t8_1 : List Tm) (t8_2 : Bool) (t10 : Tm) (t15 : List Tm) (t16 : Int) (t17 : Int) : SS := ⟨[(3, .v (.one (.ptr 0 0))), (6, .v (.one (.ptr 1 0))), (8, .v (.one (.ptr 2 0))), (10, .v (.one (.ptr 4 0))), (15, .v (.one (.c (.sl .tm t15) false))), (16, .v (.one (.c (.int t16) true))), (17, .v (.one (.c (.int t17) true)))], [(0, some (.bst .tm t3 false)), (1, some (.box [.c (.int t6_0) true, .c (.int t6_1) true, .c (.int t6_2) true, .c (.int t6_3) true, .nils])), (2, some (.box [.c (.sl .tm t8_0) false, .arr 3, .c (.bool t8_2) true])), (3, some (.row 24 .tm t8_1 false)), (4, some (.bst .tm t10 false))], 5⟩
theorem p97_0 (n : Nat) (lab : Nat → SS → Option (RT.den F97.rs)) (x : PTs.den F97.ps) : F97.body (bodyOf Try.f97) tabR tyR true (cs97 n) lab x = o97_0 n (fun t3 t6_0 t6_1 t6_2 t6_3 t8_0 t8_1 t8_2 t15 t16 t17 => lab 1 (st97_1 t3 t6_0 t6_1 t6_2 t6_3 t8_0 t8_1 t8_2 t15 t16 t17)) x.1 x.2.1 x.2.2.1 := by kernel_rfl
theorem p97_1 (n : Nat) (lab : Nat → SS → Option (RT.den F97.rs)) (t3 : Tm) (t6_0 : Int) (t6_1 : Int) (t6_2 : Int) (t6_3 : Int) (t8_0 : List Tm) (t8_1 : List Tm) (t8_2 : Bool) (t15 : List Tm) (t16 : Int) (t17 : Int) : F97.at (bodyOf Try.f97) tabR tyR true (cs97 n) lab 1 (st97_1 t3 t6_0 t6_1 t6_2 t6_3 t8_0 t8_1 t8_2 t15 t16 t17) = o97_1 n (fun t3 t6_0 t6_1 t6_2 t6_3 t8_0 t8_1 t8_2 t10 t15 t16 t17 => lab 2 (st97_2 t3 t6_0 t6_1 t6_2 t6_3 t8_0 t8_1 t8_2 t10 t15 t16 t17)) t3 t6_0 t6_1 t6_2 t6_3 t8_0 t8_1 t8_2 t15 t16 t17 := by kernel_rfl
theorem p97_2 (n : Nat) (lab : Nat → SS → Option (RT.den F97.rs)) (t3 : Tm) (t6_0 : Int) (t6_1 : Int) (t6_2 : Int) (t6_3 : Int) (t8_0 : List Tm) (t8_1 : List Tm) (t8_2 : Bool) (t10 : Tm) (t15 : List Tm) (t16 : Int) (t17 : Int) : F97.at (bodyOf Try.f97) tabR tyR true (cs97 n) lab 2 (st97_2 t3 t6_0 t6_1 t6_2 t6_3 t8_0 t8_1 t8_2 t10 t15 t16 t17) = o97_2 n (fun t3 t6_0 t6_1 t6_2 t6_3 t8_0 t8_1 t8_2 t15 t16 t17 => lab 1 (st97_1 t3 t6_0 t6_1 t6_2 t6_3 t8_0 t8_1 t8_2 t15 t16 t17)) t3 t6_0 t6_1 t6_2 t6_3 t8_0 t8_1 t8_2 t10 t15 t16 t17 := by kernel_rfl
theorem n97_2 (n : Nat) (rec : Nat → SS → Option (RT.den F97.rs)) (k1 : Tm → Int → Int → Int → Int → (List Tm) → (List Tm) → Bool → (List Tm) → Int → Int → Option (Tm × Bool)) (h1 : ∀ t3 t6_0 t6_1 t6_2 t6_3 t8_0 t8_1 t8_2 t15 t16 t17, rec 1 (st97_1 t3 t6_0 t6_1 t6_2 t6_3 t8_0 t8_1 t8_2 t15 t16 t17) = k1 t3 t6_0 t6_1 t6_2 t6_3 t8_0 t8_1 t8_2 t15 t16 t17) (d : Nat) (t3 : Tm) (t6_0 : Int) (t6_1 : Int) (t6_2 : Int) (t6_3 : Int) (t8_0 : List Tm) (t8_1 : List Tm) (t8_2 : Bool) (t10 : Tm) (t15 : List Tm) (t16 : Int) (t17 : Int) : F97.labD (bodyOf Try.f97) tabR tyR true (cs97 n) rec (d + 1) 2 (st97_2 t3 t6_0 t6_1 t6_2 t6_3 t8_0 t8_1 t8_2 t10 t15 t16 t17) = c97_2 n k1 t3 t6_0 t6_1 t6_2 t6_3 t8_0 t8_1 t8_2 t10 t15 t16 t17 := by
  have e1 : ∀ t3 t6_0 t6_1 t6_2 t6_3 t8_0 t8_1 t8_2 t15 t16 t17, F97.labX (bodyOf Try.f97) tabR tyR true (cs97 n) rec d 1 (st97_1 t3 t6_0 t6_1 t6_2 t6_3 t8_0 t8_1 t8_2 t15 t16 t17) = k1 t3 t6_0 t6_1 t6_2 t6_3 t8_0 t8_1 t8_2 t15 t16 t17 := fun t3 t6_0 t6_1 t6_2 t6_3 t8_0 t8_1 t8_2 t15 t16 t17 => (Fn.labX_loop _ _ _ _ _ _ _ _ _ _ (by kernel_rfl)).trans (h1 t3 t6_0 t6_1 t6_2 t6_3 t8_0 t8_1 t8_2 t15 t16 t17)
  show F97.labD (bodyOf Try.f97) tabR tyR true (cs97 n) rec (d + 1) 2 _ = _
  rw [Fn.labD_succ, p97_2]
  simp only [e1]
  rfl
theorem m97_1 (n : Nat) : ∀ m : Nat, (∀ t3 t6_0 t6_1 t6_2 t6_3 t8_0 t8_1 t8_2 t15 t16 t17, F97.labM (bodyOf Try.f97) tabR tyR true (cs97 n) m 1 (st97_1 t3 t6_0 t6_1 t6_2 t6_3 t8_0 t8_1 t8_2 t15 t16 t17) = l97_1 n m t3 t6_0 t6_1 t6_2 t6_3 t8_0 t8_1 t8_2 t15 t16 t17) := by
  intro m
  induction m with
  | zero => exact fun _ _ _ _ _ _ _ _ _ _ _ => rfl
  | succ m ih =>
    intro t3 t6_0 t6_1 t6_2 t6_3 t8_0 t8_1 t8_2 t15 t16 t17
    have e2 : ∀ t3 t6_0 t6_1 t6_2 t6_3 t8_0 t8_1 t8_2 t10 t15 t16 t17, F97.labX (bodyOf Try.f97) tabR tyR true (cs97 n) (F97.labM (bodyOf Try.f97) tabR tyR true (cs97 n) m) 3 2 (st97_2 t3 t6_0 t6_1 t6_2 t6_3 t8_0 t8_1 t8_2 t10 t15 t16 t17) = c97_2 n (l97_1 n m) t3 t6_0 t6_1 t6_2 t6_3 t8_0 t8_1 t8_2 t10 t15 t16 t17 := fun t3 t6_0 t6_1 t6_2 t6_3 t8_0 t8_1 t8_2 t10 t15 t16 t17 => (Fn.labX_step _ _ _ _ _ _ _ _ _ _ (by kernel_rfl)).trans (n97_2 n (F97.labM (bodyOf Try.f97) tabR tyR true (cs97 n) m) (l97_1 n m) ih 2 t3 t6_0 t6_1 t6_2 t6_3 t8_0 t8_1 t8_2 t10 t15 t16 t17)
    rw [Fn.labM_succ]
    show F97.labD (bodyOf Try.f97) tabR tyR true (cs97 n) (F97.labM (bodyOf Try.f97) tabR tyR true (cs97 n) m) (3 + 1) 1 _ = _
    rw [Fn.labD_succ, p97_1]
    simp only [e2]
    rfl
theorem w97 (n : Nat) (x : PTs.den F97.ps) : F97.body (bodyOf Try.f97) tabR tyR true (cs97 n) (F97.labX (bodyOf Try.f97) tabR tyR true (cs97 n) (F97.labM (bodyOf Try.f97) tabR tyR true (cs97 n) n) F97.D) x = o97_0 n (l97_1 n n) x.1 x.2.1 x.2.2.1 := by
  have e1 : ∀ t3 t6_0 t6_1 t6_2 t6_3 t8_0 t8_1 t8_2 t15 t16 t17, F97.labX (bodyOf Try.f97) tabR tyR true (cs97 n) (F97.labM (bodyOf Try.f97) tabR tyR true (cs97 n) n) 4 1 (st97_1 t3 t6_0 t6_1 t6_2 t6_3 t8_0 t8_1 t8_2 t15 t16 t17) = (l97_1 n n) t3 t6_0 t6_1 t6_2 t6_3 t8_0 t8_1 t8_2 t15 t16 t17 := fun t3 t6_0 t6_1 t6_2 t6_3 t8_0 t8_1 t8_2 t15 t16 t17 => (Fn.labX_loop _ _ _ _ _ _ _ _ _ _ (by kernel_rfl)).trans ((m97_1 n n) t3 t6_0 t6_1 t6_2 t6_3 t8_0 t8_1 t8_2 t15 t16 t17)
  show F97.body (bodyOf Try.f97) tabR tyR true (cs97 n) (F97.labX (bodyOf Try.f97) tabR tyR true (cs97 n) (F97.labM (bodyOf Try.f97) tabR tyR true (cs97 n) n) 4) x = _
  rw [p97_0]
  simp only [e1]
  try rfl
theorem call97 : Callable Try.prog 97 := callable_of Try.func97 (by kernel_rfl) (by kernel_rfl)
theorem ok97 (n : Nat) : Cal.Ok Try.prog ⟨97, F97.ps, F97.rs, F97.fr, fun a => f97 n a.1 a.2.1 a.2.2.1⟩ :=
  cal_of_fn F97 (code := bodyOf Try.f97) Try.func97 (by kernel_rfl) (by kernel_rfl) call97 htabR (cs := cs97 n) (fun c hc => by
      simp only [cs97, List.mem_cons, List.not_mem_nil, or_false] at hc
      rcases hc with rfl | rfl | rfl | rfl
      · exact ok30 n
      · exact ok87 n
      · exact ok133
      · exact ok134 n) (fun _ => mixed) (by kernel_rfl) (by kernel_rfl) (by decide) (fun x => ⟨n, w97 n x⟩)
-- tranship/subst.Put
def o36_0 (n : Nat) (a0 : Tm) (a1 : Tm) : Option Tm :=
  (f87 n a0).bind fun x1 =>
  ifB (!x1) (
    some (Tm.mk (0 : Int) (0 : Int) (0 : Int) (0 : Int) ([] : List Tm))) (
    (f97 n a0 [(Tm.mk a1.kind a1.i a1.j a1.n a1.kids)] true).bind fun x2 =>
    ifB (!x2.2) (
      some (Tm.mk (0 : Int) (0 : Int) (0 : Int) (0 : Int) ([] : List Tm))) (
      some x2.1))
def f36 (n : Nat) (a0 : Tm) (a1 : Tm) : Option Tm := o36_0 n a0 a1
def an36 : An := .z
def F36 : Fn := { f := 36, a := an36, vars := [.cell 4 24], ps := [.st .tm, .st .tm], rs := [.st .tm], own := false, fr := true, nt := 22, D := 2, loops := [] }
def cs36 (n : Nat) : List Cal := [⟨87, [.st .tm], [.sc .bool], true, fun a => f87 n a.1⟩, ⟨97, [.st .tm, .sl .tm, .sc .bool], [.st .tm, .sc .bool], true, fun a => f97 n a.1 a.2.1 a.2.2.1⟩]
theorem p36_0 (n : Nat) (lab : Nat → SS → Option (RT.den F36.rs)) (x : PTs.den F36.ps) : F36.body (bodyOf Try.f36) tabR tyR true (cs36 n) lab x = o36_0 n x.1 x.2.1 := by kernel_rfl
theorem w36 (n : Nat) (x : PTs.den F36.ps) : F36.body (bodyOf Try.f36) tabR tyR true (cs36 n) (F36.labX (bodyOf Try.f36) tabR tyR true (cs36 n) (F36.labM (bodyOf Try.f36) tabR tyR true (cs36 n) 0) F36.D) x = o36_0 n x.1 x.2.1 := by
  show F36.body (bodyOf Try.f36) tabR tyR true (cs36 n) (F36.labX (bodyOf Try.f36) tabR tyR true (cs36 n) (F36.labM (bodyOf Try.f36) tabR tyR true (cs36 n) 0) 2) x = _
  rw [p36_0]
theorem call36 : Callable Try.prog 36 := callable_of Try.func36 (by kernel_rfl) (by kernel_rfl)
theorem ok36 (n : Nat) : Cal.Ok Try.prog ⟨36, F36.ps, F36.rs, F36.fr, fun a => f36 n a.1 a.2.1⟩ :=
  cal_of_fn F36 (code := bodyOf Try.f36) Try.func36 (by kernel_rfl) (by kernel_rfl) call36 htabR (cs := cs36 n) (fun c hc => by
      simp only [cs36, List.mem_cons, List.not_mem_nil, or_false] at hc
      rcases hc with rfl | rfl
      · exact ok87 n
      · exact ok97 n) (fun _ => mixed) (by kernel_rfl) (by kernel_rfl) (by decide) (fun x => ⟨0, w36 n x⟩)
end Go.Proofs.Ytcaahmielncmpaa
