/-
  What lifting, stripping, putting and erasing compute, as plain functions.
-/
import Derived.Test.YteaglcbnkephgaaGenK
set_option linter.unusedSimpArgs false
set_option linter.unusedVariables false
namespace Go.Proofs.Yteaglcbnkephgaa
open Go Go.RowKit
set_option maxRecDepth 100000
-- tranship/transhipref04.erase
def o115_0 (s115 : Tm → Option Tm) (n : Nat) (k1 : Tm → Int → Int → Int → Int → Int → Int → Int → Int → (List Tm) → Int → Option Tm) (a0 : Tm) : Option Tm :=
  if (decide (a0.kind = (12 : Int))) then
    atI a0.kids (3 : Int) fun x1 =>
    (s115 x1).bind fun x2 =>
    some x2
  else
    k1 a0 (0 : Int) (0 : Int) (0 : Int) (0 : Int) a0.kind a0.i a0.j a0.n ([] : List Tm) (0 : Int)
def o115_1 (s115 : Tm → Option Tm) (n : Nat) (k1 : Tm → Int → Int → Int → Int → Int → Int → Int → Int → (List Tm) → Int → Option Tm) (t1 : Tm) (t2_0 : Int) (t2_1 : Int) (t2_2 : Int) (t2_3 : Int) (t3_0 : Int) (t3_1 : Int) (t3_2 : Int) (t3_3 : Int) (t4 : List Tm) (t5 : Int) : Option Tm :=
  if (decide (t5 < (t1.kids.length : Int))) then
    atI t1.kids t5 fun x3 =>
    (s115 x3).bind fun x4 =>
    ckB (decide ((t4.length + [(Tm.mk x4.kind x4.i x4.j x4.n x4.kids)].length) * 56 ≤ 140737488355328) && decide (t4.length + [(Tm.mk x4.kind x4.i x4.j x4.n x4.kids)].length ≤ 9223372036854775807)) <|
    ckI (t5 + (1 : Int)) <|
    k1 t1 t2_0 t2_1 t2_2 t2_3 t3_0 t3_1 t3_2 t3_3 (t4 ++ [(Tm.mk x4.kind x4.i x4.j x4.n x4.kids)]) (t5 + (1 : Int))
  else
    some (Tm.mk t3_0 t3_1 t3_2 t3_3 t4)
def l115_1 (s115 : Tm → Option Tm) (n : Nat) : Nat → Tm → Int → Int → Int → Int → Int → Int → Int → Int → (List Tm) → Int → Option Tm
  | 0, _, _, _, _, _, _, _, _, _, _, _ => none
  | m + 1, t1, t2_0, t2_1, t2_2, t2_3, t3_0, t3_1, t3_2, t3_3, t4, t5 => o115_1 s115 n (l115_1 s115 n m) t1 t2_0 t2_1 t2_2 t2_3 t3_0 t3_1 t3_2 t3_3 t4 t5
def f115 : Nat → Tm → Option Tm
  | 0, _ => none
  | n + 1, a0 => o115_0 (f115 n) n (l115_1 (f115 n) n n) a0
def an115 : An := (.n none [] 0 .z (.n none [] 0 .z (.n none [] 0 .z (.n none [] 0 .z (.n none [] 0 (.n none [] 0 .z (.n none [] 0 (.n (some 1) [(1, .ps 0 .tm false), (2, .p 1 [.c, .c, .c, .c, .k]), (3, .p 2 [.c, .c, .c, .c, .k]), (4, .one (.r 3 45 .tm true)), (5, .one .c)] 4 .z .z) .z)) .z)))))
def F115 : Fn := { f := 115, a := an115, vars := [.cell 2 45], ps := [.st .tm], rs := [.st .tm], own := false, fr := true, nt := 42, D := 3, loops := [1] }
def cs115 (s115 : Tm → Option Tm) (n : Nat) : List Cal := [⟨115, [.st .tm], [.st .tm], true, fun a => s115 a.1⟩]
def st115_1 (t1 : Tm) (t2_0 : Int) (t2_1 : Int) (t2_2 : Int) (t2_3 : Int) (t3_0 : Int) (t3_1 : Int) (t3_2 : Int) (t3_3 : Int) (t4 : List Tm) (t5 : Int) : SS := ⟨[(1, .v (.one (.ptr 0 0))), (2, .v (.one (.ptr 1 0))), (3, .v (.one (.ptr 2 0))), (4, .v (.one (.arr 3))), (5, .v (.one (.c (.int t5) true)))], [(0, some (.bst .tm t1 false)), (1, some (.box [.c (.int t2_0) true, .c (.int t2_1) true, .c (.int t2_2) true, .c (.int t2_3) true, .nils])), (2, some (.box [.c (.int t3_0) true, .c (.int t3_1) true, .c (.int t3_2) true, .c (.int t3_3) true, .nils])), (3, some (.row 45 .tm t4 true))], 4⟩
theorem p115_0 (s115 : Tm → Option Tm) (n : Nat) (lab : Nat → SS → Option (RT.den F115.rs)) (x : PTs.den F115.ps) : F115.body (bodyOf Try.f115) tabR tyR true (cs115 s115 n) lab x = o115_0 s115 n (fun t1 t2_0 t2_1 t2_2 t2_3 t3_0 t3_1 t3_2 t3_3 t4 t5 => lab 1 (st115_1 t1 t2_0 t2_1 t2_2 t2_3 t3_0 t3_1 t3_2 t3_3 t4 t5)) x.1 := by kernel_rfl
theorem p115_1 (s115 : Tm → Option Tm) (n : Nat) (lab : Nat → SS → Option (RT.den F115.rs)) (t1 : Tm) (t2_0 : Int) (t2_1 : Int) (t2_2 : Int) (t2_3 : Int) (t3_0 : Int) (t3_1 : Int) (t3_2 : Int) (t3_3 : Int) (t4 : List Tm) (t5 : Int) : F115.at (bodyOf Try.f115) tabR tyR true (cs115 s115 n) lab 1 (st115_1 t1 t2_0 t2_1 t2_2 t2_3 t3_0 t3_1 t3_2 t3_3 t4 t5) = o115_1 s115 n (fun t1 t2_0 t2_1 t2_2 t2_3 t3_0 t3_1 t3_2 t3_3 t4 t5 => lab 1 (st115_1 t1 t2_0 t2_1 t2_2 t2_3 t3_0 t3_1 t3_2 t3_3 t4 t5)) t1 t2_0 t2_1 t2_2 t2_3 t3_0 t3_1 t3_2 t3_3 t4 t5 := by kernel_rfl
theorem m115_1 (s115 : Tm → Option Tm) (n : Nat) : ∀ m : Nat, (∀ t1 t2_0 t2_1 t2_2 t2_3 t3_0 t3_1 t3_2 t3_3 t4 t5, F115.labM (bodyOf Try.f115) tabR tyR true (cs115 s115 n) m 1 (st115_1 t1 t2_0 t2_1 t2_2 t2_3 t3_0 t3_1 t3_2 t3_3 t4 t5) = l115_1 s115 n m t1 t2_0 t2_1 t2_2 t2_3 t3_0 t3_1 t3_2 t3_3 t4 t5) := by
  intro m
  induction m with
  | zero => exact fun _ _ _ _ _ _ _ _ _ _ _ => rfl
  | succ m ih =>
    intro t1 t2_0 t2_1 t2_2 t2_3 t3_0 t3_1 t3_2 t3_3 t4 t5
    have e1 : ∀ t1 t2_0 t2_1 t2_2 t2_3 t3_0 t3_1 t3_2 t3_3 t4 t5, F115.labX (bodyOf Try.f115) tabR tyR true (cs115 s115 n) (F115.labM (bodyOf Try.f115) tabR tyR true (cs115 s115 n) m) 2 1 (st115_1 t1 t2_0 t2_1 t2_2 t2_3 t3_0 t3_1 t3_2 t3_3 t4 t5) = (l115_1 s115 n m) t1 t2_0 t2_1 t2_2 t2_3 t3_0 t3_1 t3_2 t3_3 t4 t5 := fun t1 t2_0 t2_1 t2_2 t2_3 t3_0 t3_1 t3_2 t3_3 t4 t5 => (Fn.labX_loop _ _ _ _ _ _ _ _ _ _ (by kernel_rfl)).trans (ih t1 t2_0 t2_1 t2_2 t2_3 t3_0 t3_1 t3_2 t3_3 t4 t5)
    rw [Fn.labM_succ]
    show F115.labD (bodyOf Try.f115) tabR tyR true (cs115 s115 n) (F115.labM (bodyOf Try.f115) tabR tyR true (cs115 s115 n) m) (2 + 1) 1 _ = _
    rw [Fn.labD_succ, p115_1]
    simp only [e1]
    rfl
theorem w115 (s115 : Tm → Option Tm) (n : Nat) (x : PTs.den F115.ps) : F115.body (bodyOf Try.f115) tabR tyR true (cs115 s115 n) (F115.labX (bodyOf Try.f115) tabR tyR true (cs115 s115 n) (F115.labM (bodyOf Try.f115) tabR tyR true (cs115 s115 n) n) F115.D) x = o115_0 s115 n (l115_1 s115 n n) x.1 := by
  have e1 : ∀ t1 t2_0 t2_1 t2_2 t2_3 t3_0 t3_1 t3_2 t3_3 t4 t5, F115.labX (bodyOf Try.f115) tabR tyR true (cs115 s115 n) (F115.labM (bodyOf Try.f115) tabR tyR true (cs115 s115 n) n) 3 1 (st115_1 t1 t2_0 t2_1 t2_2 t2_3 t3_0 t3_1 t3_2 t3_3 t4 t5) = (l115_1 s115 n n) t1 t2_0 t2_1 t2_2 t2_3 t3_0 t3_1 t3_2 t3_3 t4 t5 := fun t1 t2_0 t2_1 t2_2 t2_3 t3_0 t3_1 t3_2 t3_3 t4 t5 => (Fn.labX_loop _ _ _ _ _ _ _ _ _ _ (by kernel_rfl)).trans ((m115_1 s115 n n) t1 t2_0 t2_1 t2_2 t2_3 t3_0 t3_1 t3_2 t3_3 t4 t5)
  show F115.body (bodyOf Try.f115) tabR tyR true (cs115 s115 n) (F115.labX (bodyOf Try.f115) tabR tyR true (cs115 s115 n) (F115.labM (bodyOf Try.f115) tabR tyR true (cs115 s115 n) n) 3) x = _
  rw [p115_0]
  simp only [e1]
  try rfl
theorem call115 : Callable Try.prog 115 := callable_of Try.func115 (by kernel_rfl) (by kernel_rfl)
theorem okr115 : ∀ n : Nat, Cal.Ok Try.prog ⟨115, F115.ps, F115.rs, F115.fr, fun a => f115 n a.1⟩
  | 0 => ⟨by kernel_rfl, fun a r h => by cases h⟩
  | n + 1 => cal_of_fn F115 (code := bodyOf Try.f115) Try.func115 (by kernel_rfl) (by kernel_rfl) call115 htabR (cs := cs115 (f115 n) n) (fun c hc => by
      simp only [cs115, List.mem_cons, List.not_mem_nil, or_false] at hc
      rcases hc with rfl
      · exact (okr115 n)) (fun _ => mixed) (by kernel_rfl) (by kernel_rfl) (by decide) (fun x => ⟨n, w115 (f115 n) n x⟩)
theorem ok115 (n : Nat) : Cal.Ok Try.prog ⟨115, F115.ps, F115.rs, F115.fr, fun a => f115 n a.1⟩ := (okr115 n)
-- tranship/transhipref04.Erase
def o65_0 (n : Nat) (a0 : Tm) : Option Tm :=
  (f70 n a0).bind fun x1 =>
  if (!x1) then
    some (Tm.mk (0 : Int) (0 : Int) (0 : Int) (0 : Int) ([] : List Tm))
  else
    (f115 n a0).bind fun x2 =>
    some x2
def f65 (n : Nat) (a0 : Tm) : Option Tm := o65_0 n a0
def an65 : An := .z
def F65 : Fn := { f := 65, a := an65, vars := [.cell 2 45], ps := [.st .tm], rs := [.st .tm], own := false, fr := true, nt := 9, D := 2, loops := [] }
def cs65 (n : Nat) : List Cal := [⟨70, [.st .tm], [.sc .bool], true, fun a => f70 n a.1⟩, ⟨115, [.st .tm], [.st .tm], true, fun a => f115 n a.1⟩]
theorem p65_0 (n : Nat) (lab : Nat → SS → Option (RT.den F65.rs)) (x : PTs.den F65.ps) : F65.body (bodyOf Try.f65) tabR tyR true (cs65 n) lab x = o65_0 n x.1 := by kernel_rfl
theorem w65 (n : Nat) (x : PTs.den F65.ps) : F65.body (bodyOf Try.f65) tabR tyR true (cs65 n) (F65.labX (bodyOf Try.f65) tabR tyR true (cs65 n) (F65.labM (bodyOf Try.f65) tabR tyR true (cs65 n) 0) F65.D) x = o65_0 n x.1 := by
  show F65.body (bodyOf Try.f65) tabR tyR true (cs65 n) (F65.labX (bodyOf Try.f65) tabR tyR true (cs65 n) (F65.labM (bodyOf Try.f65) tabR tyR true (cs65 n) 0) 2) x = _
  rw [p65_0]
theorem call65 : Callable Try.prog 65 := callable_of Try.func65 (by kernel_rfl) (by kernel_rfl)
theorem ok65 (n : Nat) : Cal.Ok Try.prog ⟨65, F65.ps, F65.rs, F65.fr, fun a => f65 n a.1⟩ :=
  cal_of_fn F65 (code := bodyOf Try.f65) Try.func65 (by kernel_rfl) (by kernel_rfl) call65 htabR (cs := cs65 n) (fun c hc => by
      simp only [cs65, List.mem_cons, List.not_mem_nil, or_false] at hc
      rcases hc with rfl | rfl
      · exact ok70 n
      · exact ok115 n) (fun _ => mixed) (by kernel_rfl) (by kernel_rfl) (by decide) (fun x => ⟨0, w65 n x⟩)
-- tranship/erase.erase
def o117_0 (s117 : Tm → Option Tm) (n : Nat) (k1 : Tm → Int → Int → Int → Int → Option Tm) (a0 : Tm) : Option Tm :=
  k1 a0 (0 : Int) (0 : Int) (0 : Int) (0 : Int)
def o117_1 (s117 : Tm → Option Tm) (n : Nat) (k1 : Tm → Int → Int → Int → Int → Option Tm) (k2 : Tm → Int → Int → Int → Int → (List Tm) → (List Tm) → Int → Int → Option Tm) (t1 : Tm) (t2_0 : Int) (t2_1 : Int) (t2_2 : Int) (t2_3 : Int) : Option Tm :=
  if (decide (t1.kind = (12 : Int))) then
    atI t1.kids (3 : Int) fun x1 =>
    k1 x1 t2_0 t2_1 t2_2 t2_3
  else
    if (decide ((t1.kids.length : Int) = (0 : Int))) then
      some (Tm.mk t1.kind t1.i t1.j t1.n ([] : List Tm))
    else
      ckB (decide (0 ≤ (t1.kids.length : Int)) && (decide ((t1.kids.length : Int) ≤ (t1.kids.length : Int)) && decide ((56 : Nat) * (t1.kids.length : Int) ≤ 281474976710656))) <|
      k2 t1 t2_0 t2_1 t2_2 t2_3 (List.replicate (t1.kids.length : Int).toNat (Tm.mk (0 : Int) (0 : Int) (0 : Int) (0 : Int) ([] : List Tm))) t1.kids (t1.kids.length : Int) (0 : Int)
def o117_2 (s117 : Tm → Option Tm) (n : Nat) (k2 : Tm → Int → Int → Int → Int → (List Tm) → (List Tm) → Int → Int → Option Tm) (t1 : Tm) (t2_0 : Int) (t2_1 : Int) (t2_2 : Int) (t2_3 : Int) (t3 : List Tm) (t24 : List Tm) (t25 : Int) (t26 : Int) : Option Tm :=
  if (decide (t26 < t25)) then
    atI t24 t26 fun x2 =>
    (s117 x2).bind fun x3 =>
    ckB (decide (0 ≤ t26) && decide (t26 < t3.length)) <|
    ckB (decide (t26.toNat < t3.length)) <|
    ckI (t26 + (1 : Int)) <|
    k2 t1 t2_0 t2_1 t2_2 t2_3 (t3.set t26.toNat (Tm.mk x3.kind x3.i x3.j x3.n x3.kids)) t24 t25 (t26 + (1 : Int))
  else
    some (Tm.mk t1.kind t1.i t1.j t1.n t3)
def l117_2 (s117 : Tm → Option Tm) (n : Nat) : Nat → Tm → Int → Int → Int → Int → (List Tm) → (List Tm) → Int → Int → Option Tm
  | 0, _, _, _, _, _, _, _, _, _ => none
  | m + 1, t1, t2_0, t2_1, t2_2, t2_3, t3, t24, t25, t26 => o117_2 s117 n (l117_2 s117 n m) t1 t2_0 t2_1 t2_2 t2_3 t3 t24 t25 t26
def l117_1 (s117 : Tm → Option Tm) (n : Nat) : Nat → Tm → Int → Int → Int → Int → Option Tm
  | 0, _, _, _, _, _ => none
  | m + 1, t1, t2_0, t2_1, t2_2, t2_3 => o117_1 s117 n (l117_1 s117 n m) (l117_2 s117 n m) t1 t2_0 t2_1 t2_2 t2_3
def f117 : Nat → Tm → Option Tm
  | 0, _ => none
  | n + 1, a0 => o117_0 (f117 n) n (l117_1 (f117 n) n n) a0
def an117 : An := (.n none [] 0 .z (.n none [] 0 (.n none [] 0 (.n (some 1) [(1, .ps 0 .tm false), (2, .p 1 [.c, .c, .c, .c, .k])] 2 .z .z) .z) (.n none [] 0 .z (.n none [] 0 .z (.n none [] 0 (.n none [] 0 .z (.n none [] 0 (.n (some 2) [(1, .ps 0 .tm false), (2, .p 1 [.c, .c, .c, .c, .k]), (3, .one (.r 2 45 .tm true)), (24, .one (.d .tm false)), (25, .one .c), (26, .one .c)] 3 .z .z) .z)) .z)))))
def F117 : Fn := { f := 117, a := an117, vars := [.cell 2 45], ps := [.st .tm], rs := [.st .tm], own := false, fr := true, nt := 40, D := 4, loops := [1, 2] }
def cs117 (s117 : Tm → Option Tm) (n : Nat) : List Cal := [⟨117, [.st .tm], [.st .tm], true, fun a => s117 a.1⟩]
def st117_1 (t1 : Tm) (t2_0 : Int) (t2_1 : Int) (t2_2 : Int) (t2_3 : Int) : SS := ⟨[(1, .v (.one (.ptr 0 0))), (2, .v (.one (.ptr 1 0)))], [(0, some (.bst .tm t1 false)), (1, some (.box [.c (.int t2_0) true, .c (.int t2_1) true, .c (.int t2_2) true, .c (.int t2_3) true, .nils]))], 2⟩
def st117_2 (t1 : Tm) (t2_0 : Int) (t2_1 : Int) (t2_2 : Int) (t2_3 : Int) (t3 : List Tm) (t24 : List Tm) (t25 : Int) (t26 : Int) : SS := ⟨[(1, .v (.one (.ptr 0 0))), (2, .v (.one (.ptr 1 0))), (3, .v (.one (.arr 2))), (24, .v (.one (.c (.sl .tm t24) false))), (25, .v (.one (.c (.int t25) true))), (26, .v (.one (.c (.int t26) true)))], [(0, some (.bst .tm t1 false)), (1, some (.box [.c (.int t2_0) true, .c (.int t2_1) true, .c (.int t2_2) true, .c (.int t2_3) true, .nils])), (2, some (.row 45 .tm t3 true))], 3⟩
theorem p117_0 (s117 : Tm → Option Tm) (n : Nat) (lab : Nat → SS → Option (RT.den F117.rs)) (x : PTs.den F117.ps) : F117.body (bodyOf Try.f117) tabR tyR true (cs117 s117 n) lab x = o117_0 s117 n (fun t1 t2_0 t2_1 t2_2 t2_3 => lab 1 (st117_1 t1 t2_0 t2_1 t2_2 t2_3)) x.1 := by kernel_rfl
theorem p117_1 (s117 : Tm → Option Tm) (n : Nat) (lab : Nat → SS → Option (RT.den F117.rs)) (t1 : Tm) (t2_0 : Int) (t2_1 : Int) (t2_2 : Int) (t2_3 : Int) : F117.at (bodyOf Try.f117) tabR tyR true (cs117 s117 n) lab 1 (st117_1 t1 t2_0 t2_1 t2_2 t2_3) = o117_1 s117 n (fun t1 t2_0 t2_1 t2_2 t2_3 => lab 1 (st117_1 t1 t2_0 t2_1 t2_2 t2_3)) (fun t1 t2_0 t2_1 t2_2 t2_3 t3 t24 t25 t26 => lab 2 (st117_2 t1 t2_0 t2_1 t2_2 t2_3 t3 t24 t25 t26)) t1 t2_0 t2_1 t2_2 t2_3 := by kernel_rfl
theorem p117_2 (s117 : Tm → Option Tm) (n : Nat) (lab : Nat → SS → Option (RT.den F117.rs)) (t1 : Tm) (t2_0 : Int) (t2_1 : Int) (t2_2 : Int) (t2_3 : Int) (t3 : List Tm) (t24 : List Tm) (t25 : Int) (t26 : Int) : F117.at (bodyOf Try.f117) tabR tyR true (cs117 s117 n) lab 2 (st117_2 t1 t2_0 t2_1 t2_2 t2_3 t3 t24 t25 t26) = o117_2 s117 n (fun t1 t2_0 t2_1 t2_2 t2_3 t3 t24 t25 t26 => lab 2 (st117_2 t1 t2_0 t2_1 t2_2 t2_3 t3 t24 t25 t26)) t1 t2_0 t2_1 t2_2 t2_3 t3 t24 t25 t26 := by kernel_rfl
theorem m117_2 (s117 : Tm → Option Tm) (n : Nat) : ∀ m : Nat, (∀ t1 t2_0 t2_1 t2_2 t2_3 t3 t24 t25 t26, F117.labM (bodyOf Try.f117) tabR tyR true (cs117 s117 n) m 2 (st117_2 t1 t2_0 t2_1 t2_2 t2_3 t3 t24 t25 t26) = l117_2 s117 n m t1 t2_0 t2_1 t2_2 t2_3 t3 t24 t25 t26) := by
  intro m
  induction m with
  | zero => exact fun _ _ _ _ _ _ _ _ _ => rfl
  | succ m ih =>
    intro t1 t2_0 t2_1 t2_2 t2_3 t3 t24 t25 t26
    have e2 : ∀ t1 t2_0 t2_1 t2_2 t2_3 t3 t24 t25 t26, F117.labX (bodyOf Try.f117) tabR tyR true (cs117 s117 n) (F117.labM (bodyOf Try.f117) tabR tyR true (cs117 s117 n) m) 3 2 (st117_2 t1 t2_0 t2_1 t2_2 t2_3 t3 t24 t25 t26) = (l117_2 s117 n m) t1 t2_0 t2_1 t2_2 t2_3 t3 t24 t25 t26 := fun t1 t2_0 t2_1 t2_2 t2_3 t3 t24 t25 t26 => (Fn.labX_loop _ _ _ _ _ _ _ _ _ _ (by kernel_rfl)).trans (ih t1 t2_0 t2_1 t2_2 t2_3 t3 t24 t25 t26)
    rw [Fn.labM_succ]
    show F117.labD (bodyOf Try.f117) tabR tyR true (cs117 s117 n) (F117.labM (bodyOf Try.f117) tabR tyR true (cs117 s117 n) m) (3 + 1) 2 _ = _
    rw [Fn.labD_succ, p117_2]
    simp only [e2]
    rfl
theorem m117_1 (s117 : Tm → Option Tm) (n : Nat) : ∀ m : Nat, (∀ t1 t2_0 t2_1 t2_2 t2_3, F117.labM (bodyOf Try.f117) tabR tyR true (cs117 s117 n) m 1 (st117_1 t1 t2_0 t2_1 t2_2 t2_3) = l117_1 s117 n m t1 t2_0 t2_1 t2_2 t2_3) := by
  intro m
  induction m with
  | zero => exact fun _ _ _ _ _ => rfl
  | succ m ih =>
    intro t1 t2_0 t2_1 t2_2 t2_3
    have e1 : ∀ t1 t2_0 t2_1 t2_2 t2_3, F117.labX (bodyOf Try.f117) tabR tyR true (cs117 s117 n) (F117.labM (bodyOf Try.f117) tabR tyR true (cs117 s117 n) m) 3 1 (st117_1 t1 t2_0 t2_1 t2_2 t2_3) = (l117_1 s117 n m) t1 t2_0 t2_1 t2_2 t2_3 := fun t1 t2_0 t2_1 t2_2 t2_3 => (Fn.labX_loop _ _ _ _ _ _ _ _ _ _ (by kernel_rfl)).trans (ih t1 t2_0 t2_1 t2_2 t2_3)
    have e2 : ∀ t1 t2_0 t2_1 t2_2 t2_3 t3 t24 t25 t26, F117.labX (bodyOf Try.f117) tabR tyR true (cs117 s117 n) (F117.labM (bodyOf Try.f117) tabR tyR true (cs117 s117 n) m) 3 2 (st117_2 t1 t2_0 t2_1 t2_2 t2_3 t3 t24 t25 t26) = (l117_2 s117 n m) t1 t2_0 t2_1 t2_2 t2_3 t3 t24 t25 t26 := fun t1 t2_0 t2_1 t2_2 t2_3 t3 t24 t25 t26 => (Fn.labX_loop _ _ _ _ _ _ _ _ _ _ (by kernel_rfl)).trans ((m117_2 s117 n m) t1 t2_0 t2_1 t2_2 t2_3 t3 t24 t25 t26)
    rw [Fn.labM_succ]
    show F117.labD (bodyOf Try.f117) tabR tyR true (cs117 s117 n) (F117.labM (bodyOf Try.f117) tabR tyR true (cs117 s117 n) m) (3 + 1) 1 _ = _
    rw [Fn.labD_succ, p117_1]
    simp only [e1, e2]
    rfl
theorem w117 (s117 : Tm → Option Tm) (n : Nat) (x : PTs.den F117.ps) : F117.body (bodyOf Try.f117) tabR tyR true (cs117 s117 n) (F117.labX (bodyOf Try.f117) tabR tyR true (cs117 s117 n) (F117.labM (bodyOf Try.f117) tabR tyR true (cs117 s117 n) n) F117.D) x = o117_0 s117 n (l117_1 s117 n n) x.1 := by
  have e1 : ∀ t1 t2_0 t2_1 t2_2 t2_3, F117.labX (bodyOf Try.f117) tabR tyR true (cs117 s117 n) (F117.labM (bodyOf Try.f117) tabR tyR true (cs117 s117 n) n) 4 1 (st117_1 t1 t2_0 t2_1 t2_2 t2_3) = (l117_1 s117 n n) t1 t2_0 t2_1 t2_2 t2_3 := fun t1 t2_0 t2_1 t2_2 t2_3 => (Fn.labX_loop _ _ _ _ _ _ _ _ _ _ (by kernel_rfl)).trans ((m117_1 s117 n n) t1 t2_0 t2_1 t2_2 t2_3)
  show F117.body (bodyOf Try.f117) tabR tyR true (cs117 s117 n) (F117.labX (bodyOf Try.f117) tabR tyR true (cs117 s117 n) (F117.labM (bodyOf Try.f117) tabR tyR true (cs117 s117 n) n) 4) x = _
  rw [p117_0]
  simp only [e1]
  try rfl
theorem call117 : Callable Try.prog 117 := callable_of Try.func117 (by kernel_rfl) (by kernel_rfl)
theorem okr117 : ∀ n : Nat, Cal.Ok Try.prog ⟨117, F117.ps, F117.rs, F117.fr, fun a => f117 n a.1⟩
  | 0 => ⟨by kernel_rfl, fun a r h => by cases h⟩
  | n + 1 => cal_of_fn F117 (code := bodyOf Try.f117) Try.func117 (by kernel_rfl) (by kernel_rfl) call117 htabR (cs := cs117 (f117 n) n) (fun c hc => by
      simp only [cs117, List.mem_cons, List.not_mem_nil, or_false] at hc
      rcases hc with rfl
      · exact (okr117 n)) (fun _ => mixed) (by kernel_rfl) (by kernel_rfl) (by decide) (fun x => ⟨n, w117 (f117 n) n x⟩)
theorem ok117 (n : Nat) : Cal.Ok Try.prog ⟨117, F117.ps, F117.rs, F117.fr, fun a => f117 n a.1⟩ := (okr117 n)
-- tranship/erase.Erase
def o67_0 (n : Nat) (a0 : Tm) : Option Tm :=
  (f84 n a0).bind fun x1 =>
  if (!x1) then
    some (Tm.mk (0 : Int) (0 : Int) (0 : Int) (0 : Int) ([] : List Tm))
  else
    (f117 n a0).bind fun x2 =>
    some x2
def f67 (n : Nat) (a0 : Tm) : Option Tm := o67_0 n a0
def an67 : An := .z
def F67 : Fn := { f := 67, a := an67, vars := [.cell 2 45], ps := [.st .tm], rs := [.st .tm], own := false, fr := true, nt := 9, D := 2, loops := [] }
def cs67 (n : Nat) : List Cal := [⟨84, [.st .tm], [.sc .bool], true, fun a => f84 n a.1⟩, ⟨117, [.st .tm], [.st .tm], true, fun a => f117 n a.1⟩]
theorem p67_0 (n : Nat) (lab : Nat → SS → Option (RT.den F67.rs)) (x : PTs.den F67.ps) : F67.body (bodyOf Try.f67) tabR tyR true (cs67 n) lab x = o67_0 n x.1 := by kernel_rfl
theorem w67 (n : Nat) (x : PTs.den F67.ps) : F67.body (bodyOf Try.f67) tabR tyR true (cs67 n) (F67.labX (bodyOf Try.f67) tabR tyR true (cs67 n) (F67.labM (bodyOf Try.f67) tabR tyR true (cs67 n) 0) F67.D) x = o67_0 n x.1 := by
  show F67.body (bodyOf Try.f67) tabR tyR true (cs67 n) (F67.labX (bodyOf Try.f67) tabR tyR true (cs67 n) (F67.labM (bodyOf Try.f67) tabR tyR true (cs67 n) 0) 2) x = _
  rw [p67_0]
theorem call67 : Callable Try.prog 67 := callable_of Try.func67 (by kernel_rfl) (by kernel_rfl)
theorem ok67 (n : Nat) : Cal.Ok Try.prog ⟨67, F67.ps, F67.rs, F67.fr, fun a => f67 n a.1⟩ :=
  cal_of_fn F67 (code := bodyOf Try.f67) Try.func67 (by kernel_rfl) (by kernel_rfl) call67 htabR (cs := cs67 n) (fun c hc => by
      simp only [cs67, List.mem_cons, List.not_mem_nil, or_false] at hc
      rcases hc with rfl | rfl
      · exact ok84 n
      · exact ok117 n) (fun _ => mixed) (by kernel_rfl) (by kernel_rfl) (by decide) (fun x => ⟨0, w67 n x⟩)
-- tranship/erase.count
def o120_0 (s120 : Tm → Option Int) (n : Nat) (k1 : Tm → Int → Option Int) (a0 : Tm) : Option Int :=
  if (decide (a0.kind = (12 : Int))) then
    k1 a0 (1 : Int)
  else
    k1 a0 (0 : Int)
def o120_1 (s120 : Tm → Option Int) (n : Nat) (k2 : Int → (List Tm) → Int → Int → Option Int) (t1 : Tm) (t3 : Int) : Option Int :=
  k2 t3 t1.kids (t1.kids.length : Int) (0 : Int)
def o120_2 (s120 : Tm → Option Int) (n : Nat) (k2 : Int → (List Tm) → Int → Int → Option Int) (t3 : Int) (t10 : List Tm) (t11 : Int) (t12 : Int) : Option Int :=
  if (decide (t12 < t11)) then
    atI t10 t12 fun x1 =>
    (s120 x1).bind fun x2 =>
    ckI (t3 + x2) <|
    ckI (t12 + (1 : Int)) <|
    k2 (t3 + x2) t10 t11 (t12 + (1 : Int))
  else
    some t3
def c120_1 (s120 : Tm → Option Int) (n : Nat) (k2 : Int → (List Tm) → Int → Int → Option Int) (t1 : Tm) (t3 : Int) : Option Int :=
  o120_1 s120 n k2 t1 t3
def l120_2 (s120 : Tm → Option Int) (n : Nat) : Nat → Int → (List Tm) → Int → Int → Option Int
  | 0, _, _, _, _ => none
  | m + 1, t3, t10, t11, t12 => o120_2 s120 n (l120_2 s120 n m) t3 t10 t11 t12
def f120 : Nat → Tm → Option Int
  | 0, _ => none
  | n + 1, a0 => o120_0 (f120 n) n (c120_1 (f120 n) n (l120_2 (f120 n) n n)) a0
def an120 : An := (.n none [] 0 .z (.n none [] 0 .z (.n (some 1) [(1, .ps 0 .tm false), (3, .one .c)] 1 .z (.n none [] 0 (.n none [] 0 .z (.n none [] 0 (.n (some 2) [(3, .one .c), (10, .one (.d .tm false)), (11, .one .c), (12, .one .c)] 0 .z .z) .z)) .z))))
def F120 : Fn := { f := 120, a := an120, vars := [.tmp 2], ps := [.st .tm], rs := [.sc .int], own := false, fr := true, nt := 22, D := 4, loops := [2] }
def cs120 (s120 : Tm → Option Int) (n : Nat) : List Cal := [⟨120, [.st .tm], [.sc .int], true, fun a => s120 a.1⟩]
def st120_1 (t1 : Tm) (t3 : Int) : SS := ⟨[(1, .v (.one (.ptr 0 0))), (3, .v (.one (.c (.int t3) true)))], [(0, some (.bst .tm t1 false))], 1⟩
def st120_2 (t3 : Int) (t10 : List Tm) (t11 : Int) (t12 : Int) : SS := ⟨[(3, .v (.one (.c (.int t3) true))), (10, .v (.one (.c (.sl .tm t10) false))), (11, .v (.one (.c (.int t11) true))), (12, .v (.one (.c (.int t12) true)))], [], 0⟩
theorem p120_0 (s120 : Tm → Option Int) (n : Nat) (lab : Nat → SS → Option (RT.den F120.rs)) (x : PTs.den F120.ps) : F120.body (bodyOf Try.f120) tabR tyR true (cs120 s120 n) lab x = o120_0 s120 n (fun t1 t3 => lab 1 (st120_1 t1 t3)) x.1 := by kernel_rfl
theorem p120_1 (s120 : Tm → Option Int) (n : Nat) (lab : Nat → SS → Option (RT.den F120.rs)) (t1 : Tm) (t3 : Int) : F120.at (bodyOf Try.f120) tabR tyR true (cs120 s120 n) lab 1 (st120_1 t1 t3) = o120_1 s120 n (fun t3 t10 t11 t12 => lab 2 (st120_2 t3 t10 t11 t12)) t1 t3 := by kernel_rfl
theorem p120_2 (s120 : Tm → Option Int) (n : Nat) (lab : Nat → SS → Option (RT.den F120.rs)) (t3 : Int) (t10 : List Tm) (t11 : Int) (t12 : Int) : F120.at (bodyOf Try.f120) tabR tyR true (cs120 s120 n) lab 2 (st120_2 t3 t10 t11 t12) = o120_2 s120 n (fun t3 t10 t11 t12 => lab 2 (st120_2 t3 t10 t11 t12)) t3 t10 t11 t12 := by kernel_rfl
theorem n120_1 (s120 : Tm → Option Int) (n : Nat) (rec : Nat → SS → Option (RT.den F120.rs)) (k2 : Int → (List Tm) → Int → Int → Option Int) (h2 : ∀ t3 t10 t11 t12, rec 2 (st120_2 t3 t10 t11 t12) = k2 t3 t10 t11 t12) (d : Nat) (t1 : Tm) (t3 : Int) : F120.labD (bodyOf Try.f120) tabR tyR true (cs120 s120 n) rec (d + 1) 1 (st120_1 t1 t3) = c120_1 s120 n k2 t1 t3 := by
  have e2 : ∀ t3 t10 t11 t12, F120.labX (bodyOf Try.f120) tabR tyR true (cs120 s120 n) rec d 2 (st120_2 t3 t10 t11 t12) = k2 t3 t10 t11 t12 := fun t3 t10 t11 t12 => (Fn.labX_loop _ _ _ _ _ _ _ _ _ _ (by kernel_rfl)).trans (h2 t3 t10 t11 t12)
  show F120.labD (bodyOf Try.f120) tabR tyR true (cs120 s120 n) rec (d + 1) 1 _ = _
  rw [Fn.labD_succ, p120_1]
  simp only [e2]
  rfl
theorem m120_2 (s120 : Tm → Option Int) (n : Nat) : ∀ m : Nat, (∀ t3 t10 t11 t12, F120.labM (bodyOf Try.f120) tabR tyR true (cs120 s120 n) m 2 (st120_2 t3 t10 t11 t12) = l120_2 s120 n m t3 t10 t11 t12) := by
  intro m
  induction m with
  | zero => exact fun _ _ _ _ => rfl
  | succ m ih =>
    intro t3 t10 t11 t12
    have e2 : ∀ t3 t10 t11 t12, F120.labX (bodyOf Try.f120) tabR tyR true (cs120 s120 n) (F120.labM (bodyOf Try.f120) tabR tyR true (cs120 s120 n) m) 3 2 (st120_2 t3 t10 t11 t12) = (l120_2 s120 n m) t3 t10 t11 t12 := fun t3 t10 t11 t12 => (Fn.labX_loop _ _ _ _ _ _ _ _ _ _ (by kernel_rfl)).trans (ih t3 t10 t11 t12)
    rw [Fn.labM_succ]
    show F120.labD (bodyOf Try.f120) tabR tyR true (cs120 s120 n) (F120.labM (bodyOf Try.f120) tabR tyR true (cs120 s120 n) m) (3 + 1) 2 _ = _
    rw [Fn.labD_succ, p120_2]
    simp only [e2]
    rfl
theorem w120 (s120 : Tm → Option Int) (n : Nat) (x : PTs.den F120.ps) : F120.body (bodyOf Try.f120) tabR tyR true (cs120 s120 n) (F120.labX (bodyOf Try.f120) tabR tyR true (cs120 s120 n) (F120.labM (bodyOf Try.f120) tabR tyR true (cs120 s120 n) n) F120.D) x = o120_0 s120 n (c120_1 s120 n (l120_2 s120 n n)) x.1 := by
  have e1 : ∀ t1 t3, F120.labX (bodyOf Try.f120) tabR tyR true (cs120 s120 n) (F120.labM (bodyOf Try.f120) tabR tyR true (cs120 s120 n) n) 4 1 (st120_1 t1 t3) = c120_1 s120 n (l120_2 s120 n n) t1 t3 := fun t1 t3 => (Fn.labX_step _ _ _ _ _ _ _ _ _ _ (by kernel_rfl)).trans (n120_1 s120 n (F120.labM (bodyOf Try.f120) tabR tyR true (cs120 s120 n) n) (l120_2 s120 n n) (m120_2 s120 n n) 3 t1 t3)
  show F120.body (bodyOf Try.f120) tabR tyR true (cs120 s120 n) (F120.labX (bodyOf Try.f120) tabR tyR true (cs120 s120 n) (F120.labM (bodyOf Try.f120) tabR tyR true (cs120 s120 n) n) 4) x = _
  rw [p120_0]
  simp only [e1]
  try rfl
theorem call120 : Callable Try.prog 120 := callable_of Try.func120 (by kernel_rfl) (by kernel_rfl)
theorem okr120 : ∀ n : Nat, Cal.Ok Try.prog ⟨120, F120.ps, F120.rs, F120.fr, fun a => f120 n a.1⟩
  | 0 => ⟨by kernel_rfl, fun a r h => by cases h⟩
  | n + 1 => cal_of_fn F120 (code := bodyOf Try.f120) Try.func120 (by kernel_rfl) (by kernel_rfl) call120 htabR (cs := cs120 (f120 n) n) (fun c hc => by
      simp only [cs120, List.mem_cons, List.not_mem_nil, or_false] at hc
      rcases hc with rfl
      · exact (okr120 n)) (fun _ => mixed) (by kernel_rfl) (by kernel_rfl) (by decide) (fun x => ⟨n, w120 (f120 n) n x⟩)
theorem ok120 (n : Nat) : Cal.Ok Try.prog ⟨120, F120.ps, F120.rs, F120.fr, fun a => f120 n a.1⟩ := (okr120 n)
-- tranship/erase.Count
def o72_0 (n : Nat) (a0 : Tm) : Option Int :=
  (f84 n a0).bind fun x1 =>
  if (!x1) then
    some (0 : Int)
  else
    (f120 n a0).bind fun x2 =>
    some x2
def f72 (n : Nat) (a0 : Tm) : Option Int := o72_0 n a0
def an72 : An := .z
def F72 : Fn := { f := 72, a := an72, vars := [.tmp 2], ps := [.st .tm], rs := [.sc .int], own := false, fr := true, nt := 8, D := 2, loops := [] }
def cs72 (n : Nat) : List Cal := [⟨84, [.st .tm], [.sc .bool], true, fun a => f84 n a.1⟩, ⟨120, [.st .tm], [.sc .int], true, fun a => f120 n a.1⟩]
theorem p72_0 (n : Nat) (lab : Nat → SS → Option (RT.den F72.rs)) (x : PTs.den F72.ps) : F72.body (bodyOf Try.f72) tabR tyR true (cs72 n) lab x = o72_0 n x.1 := by kernel_rfl
theorem w72 (n : Nat) (x : PTs.den F72.ps) : F72.body (bodyOf Try.f72) tabR tyR true (cs72 n) (F72.labX (bodyOf Try.f72) tabR tyR true (cs72 n) (F72.labM (bodyOf Try.f72) tabR tyR true (cs72 n) 0) F72.D) x = o72_0 n x.1 := by
  show F72.body (bodyOf Try.f72) tabR tyR true (cs72 n) (F72.labX (bodyOf Try.f72) tabR tyR true (cs72 n) (F72.labM (bodyOf Try.f72) tabR tyR true (cs72 n) 0) 2) x = _
  rw [p72_0]
theorem call72 : Callable Try.prog 72 := callable_of Try.func72 (by kernel_rfl) (by kernel_rfl)
theorem ok72 (n : Nat) : Cal.Ok Try.prog ⟨72, F72.ps, F72.rs, F72.fr, fun a => f72 n a.1⟩ :=
  cal_of_fn F72 (code := bodyOf Try.f72) Try.func72 (by kernel_rfl) (by kernel_rfl) call72 htabR (cs := cs72 n) (fun c hc => by
      simp only [cs72, List.mem_cons, List.not_mem_nil, or_false] at hc
      rcases hc with rfl | rfl
      · exact ok84 n
      · exact ok120 n) (fun _ => mixed) (by kernel_rfl) (by kernel_rfl) (by decide) (fun x => ⟨0, w72 n x⟩)
-- tranship/erase.Related
def o75_0 (n : Nat) (a0 : Tm) (a1 : Tm) : Option Bool :=
  (f84 n a0).bind fun x1 =>
  if x1 then
    (f84 n a1).bind fun x2 =>
    if x2 then
      (f117 n a0).bind fun x3 =>
      (f117 n a1).bind fun x4 =>
      (f122 n x3 x4).bind fun x5 =>
      some x5
    else
      some false
  else
    some false
def f75 (n : Nat) (a0 : Tm) (a1 : Tm) : Option Bool := o75_0 n a0 a1
def an75 : An := .z
def F75 : Fn := { f := 75, a := an75, vars := [.tmp 4], ps := [.st .tm, .st .tm], rs := [.sc .bool], own := false, fr := true, nt := 18, D := 2, loops := [] }
def cs75 (n : Nat) : List Cal := [⟨84, [.st .tm], [.sc .bool], true, fun a => f84 n a.1⟩, ⟨117, [.st .tm], [.st .tm], true, fun a => f117 n a.1⟩, ⟨122, [.st .tm, .st .tm], [.sc .bool], true, fun a => f122 n a.1 a.2.1⟩]
theorem p75_0 (n : Nat) (lab : Nat → SS → Option (RT.den F75.rs)) (x : PTs.den F75.ps) : F75.body (bodyOf Try.f75) tabR tyR true (cs75 n) lab x = o75_0 n x.1 x.2.1 := by kernel_rfl
theorem w75 (n : Nat) (x : PTs.den F75.ps) : F75.body (bodyOf Try.f75) tabR tyR true (cs75 n) (F75.labX (bodyOf Try.f75) tabR tyR true (cs75 n) (F75.labM (bodyOf Try.f75) tabR tyR true (cs75 n) 0) F75.D) x = o75_0 n x.1 x.2.1 := by
  show F75.body (bodyOf Try.f75) tabR tyR true (cs75 n) (F75.labX (bodyOf Try.f75) tabR tyR true (cs75 n) (F75.labM (bodyOf Try.f75) tabR tyR true (cs75 n) 0) 2) x = _
  rw [p75_0]
theorem call75 : Callable Try.prog 75 := callable_of Try.func75 (by kernel_rfl) (by kernel_rfl)
theorem ok75 (n : Nat) : Cal.Ok Try.prog ⟨75, F75.ps, F75.rs, F75.fr, fun a => f75 n a.1 a.2.1⟩ :=
  cal_of_fn F75 (code := bodyOf Try.f75) Try.func75 (by kernel_rfl) (by kernel_rfl) call75 htabR (cs := cs75 n) (fun c hc => by
      simp only [cs75, List.mem_cons, List.not_mem_nil, or_false] at hc
      rcases hc with rfl | rfl | rfl
      · exact ok84 n
      · exact ok117 n
      · exact ok122 n) (fun _ => mixed) (by kernel_rfl) (by kernel_rfl) (by decide) (fun x => ⟨0, w75 n x⟩)
-- tranship/transhipref04.Related
def o76_0 (n : Nat) (a0 : Tm) (a1 : Tm) : Option Bool :=
  (f70 n a0).bind fun x1 =>
  if x1 then
    (f70 n a1).bind fun x2 =>
    if x2 then
      (f115 n a0).bind fun x3 =>
      (f115 n a1).bind fun x4 =>
      (f123 n x3 x4).bind fun x5 =>
      some x5
    else
      some false
  else
    some false
def f76 (n : Nat) (a0 : Tm) (a1 : Tm) : Option Bool := o76_0 n a0 a1
def an76 : An := .z
def F76 : Fn := { f := 76, a := an76, vars := [.tmp 4], ps := [.st .tm, .st .tm], rs := [.sc .bool], own := false, fr := true, nt := 18, D := 2, loops := [] }
def cs76 (n : Nat) : List Cal := [⟨70, [.st .tm], [.sc .bool], true, fun a => f70 n a.1⟩, ⟨115, [.st .tm], [.st .tm], true, fun a => f115 n a.1⟩, ⟨123, [.st .tm, .st .tm], [.sc .bool], true, fun a => f123 n a.1 a.2.1⟩]
theorem p76_0 (n : Nat) (lab : Nat → SS → Option (RT.den F76.rs)) (x : PTs.den F76.ps) : F76.body (bodyOf Try.f76) tabR tyR true (cs76 n) lab x = o76_0 n x.1 x.2.1 := by kernel_rfl
theorem w76 (n : Nat) (x : PTs.den F76.ps) : F76.body (bodyOf Try.f76) tabR tyR true (cs76 n) (F76.labX (bodyOf Try.f76) tabR tyR true (cs76 n) (F76.labM (bodyOf Try.f76) tabR tyR true (cs76 n) 0) F76.D) x = o76_0 n x.1 x.2.1 := by
  show F76.body (bodyOf Try.f76) tabR tyR true (cs76 n) (F76.labX (bodyOf Try.f76) tabR tyR true (cs76 n) (F76.labM (bodyOf Try.f76) tabR tyR true (cs76 n) 0) 2) x = _
  rw [p76_0]
theorem call76 : Callable Try.prog 76 := callable_of Try.func76 (by kernel_rfl) (by kernel_rfl)
theorem ok76 (n : Nat) : Cal.Ok Try.prog ⟨76, F76.ps, F76.rs, F76.fr, fun a => f76 n a.1 a.2.1⟩ :=
  cal_of_fn F76 (code := bodyOf Try.f76) Try.func76 (by kernel_rfl) (by kernel_rfl) call76 htabR (cs := cs76 n) (fun c hc => by
      simp only [cs76, List.mem_cons, List.not_mem_nil, or_false] at hc
      rcases hc with rfl | rfl | rfl
      · exact ok70 n
      · exact ok115 n
      · exact ok123 n) (fun _ => mixed) (by kernel_rfl) (by kernel_rfl) (by decide) (fun x => ⟨0, w76 n x⟩)
-- tranship/transhipref04.strip
def o124_0 (s124 : Tm → Option Tm) (n : Nat) (k1 : Tm → Int → Int → Int → Int → Int → (List Int) → Option Tm) (a0 : Tm) : Option Tm :=
  if (decide (a0.kind = (3 : Int))) then
    k1 a0 (0 : Int) (0 : Int) (0 : Int) (0 : Int) (13 : Int) [(0 : Int), (1 : Int)]
  else
    if (decide (a0.kind = (4 : Int))) then
      k1 a0 (0 : Int) (0 : Int) (0 : Int) (0 : Int) (14 : Int) [(0 : Int), (2 : Int)]
    else
      if (decide (a0.kind = (5 : Int))) then
        k1 a0 (0 : Int) (0 : Int) (0 : Int) (0 : Int) (15 : Int) [(2 : Int), (3 : Int)]
      else
        if (decide (a0.kind = (6 : Int))) then
          k1 a0 (0 : Int) (0 : Int) (0 : Int) (0 : Int) (16 : Int) [(0 : Int), (1 : Int)]
        else
          if (decide (a0.kind = (7 : Int))) then
            k1 a0 (0 : Int) (0 : Int) (0 : Int) (0 : Int) (17 : Int) [(0 : Int), (1 : Int), (2 : Int), (3 : Int)]
          else
            if (decide (a0.kind = (8 : Int))) then
              k1 a0 (0 : Int) (0 : Int) (0 : Int) (0 : Int) (18 : Int) [(2 : Int)]
            else
              if (decide (a0.kind = (9 : Int))) then
                k1 a0 (0 : Int) (0 : Int) (0 : Int) (0 : Int) (19 : Int) [(2 : Int)]
              else
                if (decide (a0.kind = (10 : Int))) then
                  k1 a0 (0 : Int) (0 : Int) (0 : Int) (0 : Int) (20 : Int) [(0 : Int), (1 : Int), (2 : Int)]
                else
                  if (decide (a0.kind = (11 : Int))) then
                    k1 a0 (0 : Int) (0 : Int) (0 : Int) (0 : Int) (21 : Int) [(0 : Int), (1 : Int)]
                  else
                    if (decide (a0.kind = (12 : Int))) then
                      atI a0.kids (0 : Int) fun x1 =>
                      (s124 x1).bind fun x2 =>
                      atI a0.kids (1 : Int) fun x3 =>
                      (s124 x3).bind fun x4 =>
                      atI a0.kids (2 : Int) fun x5 =>
                      atI a0.kids (3 : Int) fun x6 =>
                      (s124 x6).bind fun x7 =>
                      some (Tm.mk (23 : Int) a0.i (0 : Int) (5 : Int) [(Tm.mk x2.kind x2.i x2.j x2.n x2.kids), (Tm.mk x4.kind x4.i x4.j x4.n x4.kids), (Tm.mk x5.kind x5.i x5.j x5.n x5.kids), (Tm.mk x7.kind x7.i x7.j x7.n x7.kids)])
                    else
                      some a0
def o124_1 (s124 : Tm → Option Tm) (n : Nat) (k2 : Tm → Int → Int → Int → Int → Int → (List Int) → (List Tm) → Int → Option Tm) (t1 : Tm) (t2_0 : Int) (t2_1 : Int) (t2_2 : Int) (t2_3 : Int) (t3 : Int) (t4 : List Int) : Option Tm :=
  k2 t1 t2_0 t2_1 t2_2 t2_3 t3 t4 ([] : List Tm) (0 : Int)
def o124_2 (s124 : Tm → Option Tm) (n : Nat) (k2 : Tm → Int → Int → Int → Int → Int → (List Int) → (List Tm) → Int → Option Tm) (t1 : Tm) (t2_0 : Int) (t2_1 : Int) (t2_2 : Int) (t2_3 : Int) (t3 : Int) (t4 : List Int) (t5 : List Tm) (t6 : Int) : Option Tm :=
  if (decide (t6 < (t4.length : Int))) then
    ckB (decide (0 ≤ t6) && decide (t6 < t4.length)) <|
    atN t4 t6.toNat fun x8 =>
    atI t1.kids x8 fun x9 =>
    (s124 x9).bind fun x10 =>
    ckB (decide ((t5.length + [(Tm.mk x10.kind x10.i x10.j x10.n x10.kids)].length) * 56 ≤ 140737488355328) && decide (t5.length + [(Tm.mk x10.kind x10.i x10.j x10.n x10.kids)].length ≤ 9223372036854775807)) <|
    ckI (t6 + (1 : Int)) <|
    k2 t1 t2_0 t2_1 t2_2 t2_3 t3 t4 (t5 ++ [(Tm.mk x10.kind x10.i x10.j x10.n x10.kids)]) (t6 + (1 : Int))
  else
    some (Tm.mk t3 (0 : Int) (0 : Int) (0 : Int) t5)
def c124_1 (s124 : Tm → Option Tm) (n : Nat) (k2 : Tm → Int → Int → Int → Int → Int → (List Int) → (List Tm) → Int → Option Tm) (t1 : Tm) (t2_0 : Int) (t2_1 : Int) (t2_2 : Int) (t2_3 : Int) (t3 : Int) (t4 : List Int) : Option Tm :=
  o124_1 s124 n k2 t1 t2_0 t2_1 t2_2 t2_3 t3 t4
def l124_2 (s124 : Tm → Option Tm) (n : Nat) : Nat → Tm → Int → Int → Int → Int → Int → (List Int) → (List Tm) → Int → Option Tm
  | 0, _, _, _, _, _, _, _, _, _ => none
  | m + 1, t1, t2_0, t2_1, t2_2, t2_3, t3, t4, t5, t6 => o124_2 s124 n (l124_2 s124 n m) t1 t2_0 t2_1 t2_2 t2_3 t3 t4 t5 t6
def f124 : Nat → Tm → Option Tm
  | 0, _ => none
  | n + 1, a0 => o124_0 (f124 n) n (c124_1 (f124 n) n (l124_2 (f124 n) n n)) a0
def an124 : An := (.n none [] 0 .z (.n none [] 0 .z (.n (some 1) [(1, .ps 0 .tm false), (2, .p 1 [.c, .c, .c, .c, .k]), (3, .one .c), (4, .one (.r 2 3 .int true))] 3 .z (.n none [] 0 .z (.n none [] 0 (.n none [] 0 .z (.n none [] 0 (.n (some 2) [(1, .ps 0 .tm false), (2, .p 1 [.c, .c, .c, .c, .k]), (3, .one .c), (4, .one (.r 2 3 .int true)), (5, .one (.r 3 45 .tm false)), (6, .one .c)] 4 .z .z) .z)) .z)))))
def F124 : Fn := { f := 124, a := an124, vars := [.cell 2 45], ps := [.st .tm], rs := [.st .tm], own := false, fr := false, nt := 84, D := 4, loops := [2] }
def cs124 (s124 : Tm → Option Tm) (n : Nat) : List Cal := [⟨124, [.st .tm], [.st .tm], false, fun a => s124 a.1⟩]
def st124_1 (t1 : Tm) (t2_0 : Int) (t2_1 : Int) (t2_2 : Int) (t2_3 : Int) (t3 : Int) (t4 : List Int) : SS := ⟨[(1, .v (.one (.ptr 0 0))), (2, .v (.one (.ptr 1 0))), (3, .v (.one (.c (.int t3) true))), (4, .v (.one (.arr 2)))], [(0, some (.bst .tm t1 false)), (1, some (.box [.c (.int t2_0) true, .c (.int t2_1) true, .c (.int t2_2) true, .c (.int t2_3) true, .nils])), (2, some (.row 3 .int t4 true))], 3⟩
def st124_2 (t1 : Tm) (t2_0 : Int) (t2_1 : Int) (t2_2 : Int) (t2_3 : Int) (t3 : Int) (t4 : List Int) (t5 : List Tm) (t6 : Int) : SS := ⟨[(1, .v (.one (.ptr 0 0))), (2, .v (.one (.ptr 1 0))), (3, .v (.one (.c (.int t3) true))), (4, .v (.one (.arr 2))), (5, .v (.one (.arr 3))), (6, .v (.one (.c (.int t6) true)))], [(0, some (.bst .tm t1 false)), (1, some (.box [.c (.int t2_0) true, .c (.int t2_1) true, .c (.int t2_2) true, .c (.int t2_3) true, .nils])), (2, some (.row 3 .int t4 true)), (3, some (.row 45 .tm t5 false))], 4⟩
theorem p124_0 (s124 : Tm → Option Tm) (n : Nat) (lab : Nat → SS → Option (RT.den F124.rs)) (x : PTs.den F124.ps) : F124.body (bodyOf Try.f124) tabR tyR true (cs124 s124 n) lab x = o124_0 s124 n (fun t1 t2_0 t2_1 t2_2 t2_3 t3 t4 => lab 1 (st124_1 t1 t2_0 t2_1 t2_2 t2_3 t3 t4)) x.1 := by kernel_rfl
theorem p124_1 (s124 : Tm → Option Tm) (n : Nat) (lab : Nat → SS → Option (RT.den F124.rs)) (t1 : Tm) (t2_0 : Int) (t2_1 : Int) (t2_2 : Int) (t2_3 : Int) (t3 : Int) (t4 : List Int) : F124.at (bodyOf Try.f124) tabR tyR true (cs124 s124 n) lab 1 (st124_1 t1 t2_0 t2_1 t2_2 t2_3 t3 t4) = o124_1 s124 n (fun t1 t2_0 t2_1 t2_2 t2_3 t3 t4 t5 t6 => lab 2 (st124_2 t1 t2_0 t2_1 t2_2 t2_3 t3 t4 t5 t6)) t1 t2_0 t2_1 t2_2 t2_3 t3 t4 := by kernel_rfl
theorem p124_2 (s124 : Tm → Option Tm) (n : Nat) (lab : Nat → SS → Option (RT.den F124.rs)) (t1 : Tm) (t2_0 : Int) (t2_1 : Int) (t2_2 : Int) (t2_3 : Int) (t3 : Int) (t4 : List Int) (t5 : List Tm) (t6 : Int) : F124.at (bodyOf Try.f124) tabR tyR true (cs124 s124 n) lab 2 (st124_2 t1 t2_0 t2_1 t2_2 t2_3 t3 t4 t5 t6) = o124_2 s124 n (fun t1 t2_0 t2_1 t2_2 t2_3 t3 t4 t5 t6 => lab 2 (st124_2 t1 t2_0 t2_1 t2_2 t2_3 t3 t4 t5 t6)) t1 t2_0 t2_1 t2_2 t2_3 t3 t4 t5 t6 := by kernel_rfl
theorem n124_1 (s124 : Tm → Option Tm) (n : Nat) (rec : Nat → SS → Option (RT.den F124.rs)) (k2 : Tm → Int → Int → Int → Int → Int → (List Int) → (List Tm) → Int → Option Tm) (h2 : ∀ t1 t2_0 t2_1 t2_2 t2_3 t3 t4 t5 t6, rec 2 (st124_2 t1 t2_0 t2_1 t2_2 t2_3 t3 t4 t5 t6) = k2 t1 t2_0 t2_1 t2_2 t2_3 t3 t4 t5 t6) (d : Nat) (t1 : Tm) (t2_0 : Int) (t2_1 : Int) (t2_2 : Int) (t2_3 : Int) (t3 : Int) (t4 : List Int) : F124.labD (bodyOf Try.f124) tabR tyR true (cs124 s124 n) rec (d + 1) 1 (st124_1 t1 t2_0 t2_1 t2_2 t2_3 t3 t4) = c124_1 s124 n k2 t1 t2_0 t2_1 t2_2 t2_3 t3 t4 := by
  have e2 : ∀ t1 t2_0 t2_1 t2_2 t2_3 t3 t4 t5 t6, F124.labX (bodyOf Try.f124) tabR tyR true (cs124 s124 n) rec d 2 (st124_2 t1 t2_0 t2_1 t2_2 t2_3 t3 t4 t5 t6) = k2 t1 t2_0 t2_1 t2_2 t2_3 t3 t4 t5 t6 := fun t1 t2_0 t2_1 t2_2 t2_3 t3 t4 t5 t6 => (Fn.labX_loop _ _ _ _ _ _ _ _ _ _ (by kernel_rfl)).trans (h2 t1 t2_0 t2_1 t2_2 t2_3 t3 t4 t5 t6)
  show F124.labD (bodyOf Try.f124) tabR tyR true (cs124 s124 n) rec (d + 1) 1 _ = _
  rw [Fn.labD_succ, p124_1]
  simp only [e2]
  rfl
theorem m124_2 (s124 : Tm → Option Tm) (n : Nat) : ∀ m : Nat, (∀ t1 t2_0 t2_1 t2_2 t2_3 t3 t4 t5 t6, F124.labM (bodyOf Try.f124) tabR tyR true (cs124 s124 n) m 2 (st124_2 t1 t2_0 t2_1 t2_2 t2_3 t3 t4 t5 t6) = l124_2 s124 n m t1 t2_0 t2_1 t2_2 t2_3 t3 t4 t5 t6) := by
  intro m
  induction m with
  | zero => exact fun _ _ _ _ _ _ _ _ _ => rfl
  | succ m ih =>
    intro t1 t2_0 t2_1 t2_2 t2_3 t3 t4 t5 t6
    have e2 : ∀ t1 t2_0 t2_1 t2_2 t2_3 t3 t4 t5 t6, F124.labX (bodyOf Try.f124) tabR tyR true (cs124 s124 n) (F124.labM (bodyOf Try.f124) tabR tyR true (cs124 s124 n) m) 3 2 (st124_2 t1 t2_0 t2_1 t2_2 t2_3 t3 t4 t5 t6) = (l124_2 s124 n m) t1 t2_0 t2_1 t2_2 t2_3 t3 t4 t5 t6 := fun t1 t2_0 t2_1 t2_2 t2_3 t3 t4 t5 t6 => (Fn.labX_loop _ _ _ _ _ _ _ _ _ _ (by kernel_rfl)).trans (ih t1 t2_0 t2_1 t2_2 t2_3 t3 t4 t5 t6)
    rw [Fn.labM_succ]
    show F124.labD (bodyOf Try.f124) tabR tyR true (cs124 s124 n) (F124.labM (bodyOf Try.f124) tabR tyR true (cs124 s124 n) m) (3 + 1) 2 _ = _
    rw [Fn.labD_succ, p124_2]
    simp only [e2]
    rfl
theorem w124 (s124 : Tm → Option Tm) (n : Nat) (x : PTs.den F124.ps) : F124.body (bodyOf Try.f124) tabR tyR true (cs124 s124 n) (F124.labX (bodyOf Try.f124) tabR tyR true (cs124 s124 n) (F124.labM (bodyOf Try.f124) tabR tyR true (cs124 s124 n) n) F124.D) x = o124_0 s124 n (c124_1 s124 n (l124_2 s124 n n)) x.1 := by
  have e1 : ∀ t1 t2_0 t2_1 t2_2 t2_3 t3 t4, F124.labX (bodyOf Try.f124) tabR tyR true (cs124 s124 n) (F124.labM (bodyOf Try.f124) tabR tyR true (cs124 s124 n) n) 4 1 (st124_1 t1 t2_0 t2_1 t2_2 t2_3 t3 t4) = c124_1 s124 n (l124_2 s124 n n) t1 t2_0 t2_1 t2_2 t2_3 t3 t4 := fun t1 t2_0 t2_1 t2_2 t2_3 t3 t4 => (Fn.labX_step _ _ _ _ _ _ _ _ _ _ (by kernel_rfl)).trans (n124_1 s124 n (F124.labM (bodyOf Try.f124) tabR tyR true (cs124 s124 n) n) (l124_2 s124 n n) (m124_2 s124 n n) 3 t1 t2_0 t2_1 t2_2 t2_3 t3 t4)
  show F124.body (bodyOf Try.f124) tabR tyR true (cs124 s124 n) (F124.labX (bodyOf Try.f124) tabR tyR true (cs124 s124 n) (F124.labM (bodyOf Try.f124) tabR tyR true (cs124 s124 n) n) 4) x = _
  rw [p124_0]
  simp only [e1]
  try rfl
theorem call124 : Callable Try.prog 124 := callable_of Try.func124 (by kernel_rfl) (by kernel_rfl)
theorem okr124 : ∀ n : Nat, Cal.Ok Try.prog ⟨124, F124.ps, F124.rs, F124.fr, fun a => f124 n a.1⟩
  | 0 => ⟨by kernel_rfl, fun a r h => by cases h⟩
  | n + 1 => cal_of_fn F124 (code := bodyOf Try.f124) Try.func124 (by kernel_rfl) (by kernel_rfl) call124 htabR (cs := cs124 (f124 n) n) (fun c hc => by
      simp only [cs124, List.mem_cons, List.not_mem_nil, or_false] at hc
      rcases hc with rfl
      · exact (okr124 n)) (fun _ => mixed) (by kernel_rfl) (by kernel_rfl) (by decide) (fun x => ⟨n, w124 (f124 n) n x⟩)
theorem ok124 (n : Nat) : Cal.Ok Try.prog ⟨124, F124.ps, F124.rs, F124.fr, fun a => f124 n a.1⟩ := (okr124 n)
-- tranship/transhipref04.Strip
def o78_0 (n : Nat) (a0 : Tm) : Option Tm :=
  (f77 n a0).bind fun x1 =>
  if x1 then
    some a0
  else
    (f70 n a0).bind fun x2 =>
    if x2 then
      (f124 n a0).bind fun x3 =>
      some x3
    else
      some (Tm.mk (0 : Int) (0 : Int) (0 : Int) (0 : Int) ([] : List Tm))
def f78 (n : Nat) (a0 : Tm) : Option Tm := o78_0 n a0
def an78 : An := .z
def F78 : Fn := { f := 78, a := an78, vars := [.cell 2 45], ps := [.st .tm], rs := [.st .tm], own := false, fr := false, nt := 13, D := 2, loops := [] }
def cs78 (n : Nat) : List Cal := [⟨70, [.st .tm], [.sc .bool], true, fun a => f70 n a.1⟩, ⟨77, [.st .tm], [.sc .bool], true, fun a => f77 n a.1⟩, ⟨124, [.st .tm], [.st .tm], false, fun a => f124 n a.1⟩]
theorem p78_0 (n : Nat) (lab : Nat → SS → Option (RT.den F78.rs)) (x : PTs.den F78.ps) : F78.body (bodyOf Try.f78) tabR tyR true (cs78 n) lab x = o78_0 n x.1 := by kernel_rfl
theorem w78 (n : Nat) (x : PTs.den F78.ps) : F78.body (bodyOf Try.f78) tabR tyR true (cs78 n) (F78.labX (bodyOf Try.f78) tabR tyR true (cs78 n) (F78.labM (bodyOf Try.f78) tabR tyR true (cs78 n) 0) F78.D) x = o78_0 n x.1 := by
  show F78.body (bodyOf Try.f78) tabR tyR true (cs78 n) (F78.labX (bodyOf Try.f78) tabR tyR true (cs78 n) (F78.labM (bodyOf Try.f78) tabR tyR true (cs78 n) 0) 2) x = _
  rw [p78_0]
theorem call78 : Callable Try.prog 78 := callable_of Try.func78 (by kernel_rfl) (by kernel_rfl)
theorem ok78 (n : Nat) : Cal.Ok Try.prog ⟨78, F78.ps, F78.rs, F78.fr, fun a => f78 n a.1⟩ :=
  cal_of_fn F78 (code := bodyOf Try.f78) Try.func78 (by kernel_rfl) (by kernel_rfl) call78 htabR (cs := cs78 n) (fun c hc => by
      simp only [cs78, List.mem_cons, List.not_mem_nil, or_false] at hc
      rcases hc with rfl | rfl | rfl
      · exact ok70 n
      · exact ok77 n
      · exact ok124 n) (fun _ => mixed) (by kernel_rfl) (by kernel_rfl) (by decide) (fun x => ⟨0, w78 n x⟩)
-- tranship/strip.strip
def o125_0 (s125 : Tm → Option Tm) (n : Nat) (k1 : Tm → Int → Int → Int → Int → Int → Int → Option Tm) (a0 : Tm) : Option Tm :=
  if (decide (a0.kind = (3 : Int))) then
    k1 a0 (0 : Int) (0 : Int) (0 : Int) (0 : Int) (13 : Int) (0 : Int)
  else
    if (decide (a0.kind = (4 : Int))) then
      atI a0.kids (0 : Int) fun x1 =>
      (s125 x1).bind fun x2 =>
      atI a0.kids (2 : Int) fun x3 =>
      (s125 x3).bind fun x4 =>
      (f141 (14 : Int) (0 : Int) (0 : Int) (0 : Int) [(Tm.mk x2.kind x2.i x2.j x2.n x2.kids), (Tm.mk x4.kind x4.i x4.j x4.n x4.kids)]).bind fun x5 =>
      some x5
    else
      if (decide (a0.kind = (5 : Int))) then
        k1 a0 (0 : Int) (0 : Int) (0 : Int) (0 : Int) (15 : Int) (2 : Int)
      else
        if (decide (a0.kind = (6 : Int))) then
          k1 a0 (0 : Int) (0 : Int) (0 : Int) (0 : Int) (16 : Int) (0 : Int)
        else
          if (decide (a0.kind = (7 : Int))) then
            k1 a0 (0 : Int) (0 : Int) (0 : Int) (0 : Int) (17 : Int) (0 : Int)
          else
            if (decide (a0.kind = (8 : Int))) then
              k1 a0 (0 : Int) (0 : Int) (0 : Int) (0 : Int) (18 : Int) (2 : Int)
            else
              if (decide (a0.kind = (9 : Int))) then
                k1 a0 (0 : Int) (0 : Int) (0 : Int) (0 : Int) (19 : Int) (2 : Int)
              else
                if (decide (a0.kind = (10 : Int))) then
                  k1 a0 (0 : Int) (0 : Int) (0 : Int) (0 : Int) (20 : Int) (0 : Int)
                else
                  if (decide (a0.kind = (11 : Int))) then
                    k1 a0 (0 : Int) (0 : Int) (0 : Int) (0 : Int) (21 : Int) (0 : Int)
                  else
                    if (decide (a0.kind = (12 : Int))) then
                      atI a0.kids (0 : Int) fun x6 =>
                      (s125 x6).bind fun x7 =>
                      atI a0.kids (1 : Int) fun x8 =>
                      (s125 x8).bind fun x9 =>
                      atI a0.kids (2 : Int) fun x10 =>
                      (f142 n x10).bind fun x11 =>
                      atI a0.kids (3 : Int) fun x12 =>
                      (s125 x12).bind fun x13 =>
                      (f141 (23 : Int) a0.i (0 : Int) (5 : Int) [(Tm.mk x7.kind x7.i x7.j x7.n x7.kids), (Tm.mk x9.kind x9.i x9.j x9.n x9.kids), (Tm.mk x11.kind x11.i x11.j x11.n x11.kids), (Tm.mk x13.kind x13.i x13.j x13.n x13.kids)]).bind fun x14 =>
                      some x14
                    else
                      (f142 n a0).bind fun x15 =>
                      some x15
def o125_1 (s125 : Tm → Option Tm) (n : Nat) (k2 : Int → Int → Int → Int → Int → Int → Int → Int → (List Tm) → (List Tm) → Int → Int → Option Tm) (t1 : Tm) (t2_0 : Int) (t2_1 : Int) (t2_2 : Int) (t2_3 : Int) (t3 : Int) (t4 : Int) : Option Tm :=
  ckI ((t1.kids.length : Int) - t4) <|
  ckB (decide (0 ≤ (0 : Int)) && (decide ((0 : Int) ≤ ((t1.kids.length : Int) - t4)) && decide ((56 : Nat) * ((t1.kids.length : Int) - t4) ≤ 281474976710656))) <|
  ckB (decide (0 ≤ t4) && (decide (t4 ≤ (t1.kids.length : Int)) && decide ((t1.kids.length : Int) ≤ t1.kids.length))) <|
  k2 t2_0 t2_1 t2_2 t2_3 t3 (0 : Int) (0 : Int) (0 : Int) (List.replicate (0 : Int).toNat (Tm.mk (0 : Int) (0 : Int) (0 : Int) (0 : Int) ([] : List Tm))) ((t1.kids.take (t1.kids.length : Int).toNat).drop t4.toNat) (((t1.kids.take (t1.kids.length : Int).toNat).drop t4.toNat).length : Int) (0 : Int)
def o125_2 (s125 : Tm → Option Tm) (n : Nat) (k2 : Int → Int → Int → Int → Int → Int → Int → Int → (List Tm) → (List Tm) → Int → Int → Option Tm) (t2_0 : Int) (t2_1 : Int) (t2_2 : Int) (t2_3 : Int) (t5_0 : Int) (t5_1 : Int) (t5_2 : Int) (t5_3 : Int) (t5_4 : List Tm) (t79 : List Tm) (t80 : Int) (t81 : Int) : Option Tm :=
  if (decide (t81 < t80)) then
    atI t79 t81 fun x16 =>
    (s125 x16).bind fun x17 =>
    ckB (decide ((t5_4.length + [(Tm.mk x17.kind x17.i x17.j x17.n x17.kids)].length) * 56 ≤ 140737488355328) && decide (t5_4.length + [(Tm.mk x17.kind x17.i x17.j x17.n x17.kids)].length ≤ 9223372036854775807)) <|
    ckI (t81 + (1 : Int)) <|
    k2 t2_0 t2_1 t2_2 t2_3 t5_0 t5_1 t5_2 t5_3 (t5_4 ++ [(Tm.mk x17.kind x17.i x17.j x17.n x17.kids)]) t79 t80 (t81 + (1 : Int))
  else
    some (Tm.mk t5_0 t5_1 t5_2 t5_3 t5_4)
def c125_1 (s125 : Tm → Option Tm) (n : Nat) (k2 : Int → Int → Int → Int → Int → Int → Int → Int → (List Tm) → (List Tm) → Int → Int → Option Tm) (t1 : Tm) (t2_0 : Int) (t2_1 : Int) (t2_2 : Int) (t2_3 : Int) (t3 : Int) (t4 : Int) : Option Tm :=
  o125_1 s125 n k2 t1 t2_0 t2_1 t2_2 t2_3 t3 t4
def l125_2 (s125 : Tm → Option Tm) (n : Nat) : Nat → Int → Int → Int → Int → Int → Int → Int → Int → (List Tm) → (List Tm) → Int → Int → Option Tm
  | 0, _, _, _, _, _, _, _, _, _, _, _, _ => none
  | m + 1, t2_0, t2_1, t2_2, t2_3, t5_0, t5_1, t5_2, t5_3, t5_4, t79, t80, t81 => o125_2 s125 n (l125_2 s125 n m) t2_0 t2_1 t2_2 t2_3 t5_0 t5_1 t5_2 t5_3 t5_4 t79 t80 t81
def f125 : Nat → Tm → Option Tm
  | 0, _ => none
  | n + 1, a0 => o125_0 (f125 n) n (c125_1 (f125 n) n (l125_2 (f125 n) n n)) a0
def an125 : An := (.n none [] 0 .z (.n none [] 0 .z (.n (some 1) [(1, .ps 0 .tm false), (2, .p 1 [.c, .c, .c, .c, .k]), (3, .one .c), (4, .one .c)] 2 .z (.n none [] 0 .z (.n none [] 0 (.n none [] 0 .z (.n none [] 0 (.n (some 2) [(2, .p 0 [.c, .c, .c, .c, .k]), (5, .p 1 [.c, .c, .c, .c, .r 2 45 .tm false]), (79, .one (.d .tm false)), (80, .one .c), (81, .one .c)] 3 .z .z) .z)) .z)))))
def F125 : Fn := { f := 125, a := an125, vars := [.cell 2 45], ps := [.st .tm], rs := [.st .tm], own := false, fr := false, nt := 94, D := 4, loops := [2] }
def cs125 (s125 : Tm → Option Tm) (n : Nat) : List Cal := [⟨125, [.st .tm], [.st .tm], false, fun a => s125 a.1⟩, ⟨141, [.sc .int, .sc .int, .sc .int, .sc .int, .sl .tm], [.st .tm], false, fun a => f141 a.1 a.2.1 a.2.2.1 a.2.2.2.1 a.2.2.2.2.1⟩, ⟨142, [.st .tm], [.st .tm], true, fun a => f142 n a.1⟩]
def st125_1 (t1 : Tm) (t2_0 : Int) (t2_1 : Int) (t2_2 : Int) (t2_3 : Int) (t3 : Int) (t4 : Int) : SS := ⟨[(1, .v (.one (.ptr 0 0))), (2, .v (.one (.ptr 1 0))), (3, .v (.one (.c (.int t3) true))), (4, .v (.one (.c (.int t4) true)))], [(0, some (.bst .tm t1 false)), (1, some (.box [.c (.int t2_0) true, .c (.int t2_1) true, .c (.int t2_2) true, .c (.int t2_3) true, .nils]))], 2⟩
def st125_2 (t2_0 : Int) (t2_1 : Int) (t2_2 : Int) (t2_3 : Int) (t5_0 : Int) (t5_1 : Int) (t5_2 : Int) (t5_3 : Int) (t5_4 : List Tm) (t79 : List Tm) (t80 : Int) (t81 : Int) : SS := ⟨[(2, .v (.one (.ptr 0 0))), (5, .v (.one (.ptr 1 0))), (79, .v (.one (.c (.sl .tm t79) false))), (80, .v (.one (.c (.int t80) true))), (81, .v (.one (.c (.int t81) true)))], [(0, some (.box [.c (.int t2_0) true, .c (.int t2_1) true, .c (.int t2_2) true, .c (.int t2_3) true, .nils])), (1, some (.box [.c (.int t5_0) true, .c (.int t5_1) true, .c (.int t5_2) true, .c (.int t5_3) true, .arr 2])), (2, some (.row 45 .tm t5_4 false))], 3⟩
theorem p125_0 (s125 : Tm → Option Tm) (n : Nat) (lab : Nat → SS → Option (RT.den F125.rs)) (x : PTs.den F125.ps) : F125.body (bodyOf Try.f125) tabR tyR true (cs125 s125 n) lab x = o125_0 s125 n (fun t1 t2_0 t2_1 t2_2 t2_3 t3 t4 => lab 1 (st125_1 t1 t2_0 t2_1 t2_2 t2_3 t3 t4)) x.1 := by kernel_rfl
theorem p125_1 (s125 : Tm → Option Tm) (n : Nat) (lab : Nat → SS → Option (RT.den F125.rs)) (t1 : Tm) (t2_0 : Int) (t2_1 : Int) (t2_2 : Int) (t2_3 : Int) (t3 : Int) (t4 : Int) : F125.at (bodyOf Try.f125) tabR tyR true (cs125 s125 n) lab 1 (st125_1 t1 t2_0 t2_1 t2_2 t2_3 t3 t4) = o125_1 s125 n (fun t2_0 t2_1 t2_2 t2_3 t5_0 t5_1 t5_2 t5_3 t5_4 t79 t80 t81 => lab 2 (st125_2 t2_0 t2_1 t2_2 t2_3 t5_0 t5_1 t5_2 t5_3 t5_4 t79 t80 t81)) t1 t2_0 t2_1 t2_2 t2_3 t3 t4 := by kernel_rfl
theorem p125_2 (s125 : Tm → Option Tm) (n : Nat) (lab : Nat → SS → Option (RT.den F125.rs)) (t2_0 : Int) (t2_1 : Int) (t2_2 : Int) (t2_3 : Int) (t5_0 : Int) (t5_1 : Int) (t5_2 : Int) (t5_3 : Int) (t5_4 : List Tm) (t79 : List Tm) (t80 : Int) (t81 : Int) : F125.at (bodyOf Try.f125) tabR tyR true (cs125 s125 n) lab 2 (st125_2 t2_0 t2_1 t2_2 t2_3 t5_0 t5_1 t5_2 t5_3 t5_4 t79 t80 t81) = o125_2 s125 n (fun t2_0 t2_1 t2_2 t2_3 t5_0 t5_1 t5_2 t5_3 t5_4 t79 t80 t81 => lab 2 (st125_2 t2_0 t2_1 t2_2 t2_3 t5_0 t5_1 t5_2 t5_3 t5_4 t79 t80 t81)) t2_0 t2_1 t2_2 t2_3 t5_0 t5_1 t5_2 t5_3 t5_4 t79 t80 t81 := by kernel_rfl
theorem n125_1 (s125 : Tm → Option Tm) (n : Nat) (rec : Nat → SS → Option (RT.den F125.rs)) (k2 : Int → Int → Int → Int → Int → Int → Int → Int → (List Tm) → (List Tm) → Int → Int → Option Tm) (h2 : ∀ t2_0 t2_1 t2_2 t2_3 t5_0 t5_1 t5_2 t5_3 t5_4 t79 t80 t81, rec 2 (st125_2 t2_0 t2_1 t2_2 t2_3 t5_0 t5_1 t5_2 t5_3 t5_4 t79 t80 t81) = k2 t2_0 t2_1 t2_2 t2_3 t5_0 t5_1 t5_2 t5_3 t5_4 t79 t80 t81) (d : Nat) (t1 : Tm) (t2_0 : Int) (t2_1 : Int) (t2_2 : Int) (t2_3 : Int) (t3 : Int) (t4 : Int) : F125.labD (bodyOf Try.f125) tabR tyR true (cs125 s125 n) rec (d + 1) 1 (st125_1 t1 t2_0 t2_1 t2_2 t2_3 t3 t4) = c125_1 s125 n k2 t1 t2_0 t2_1 t2_2 t2_3 t3 t4 := by
  have e2 : ∀ t2_0 t2_1 t2_2 t2_3 t5_0 t5_1 t5_2 t5_3 t5_4 t79 t80 t81, F125.labX (bodyOf Try.f125) tabR tyR true (cs125 s125 n) rec d 2 (st125_2 t2_0 t2_1 t2_2 t2_3 t5_0 t5_1 t5_2 t5_3 t5_4 t79 t80 t81) = k2 t2_0 t2_1 t2_2 t2_3 t5_0 t5_1 t5_2 t5_3 t5_4 t79 t80 t81 := fun t2_0 t2_1 t2_2 t2_3 t5_0 t5_1 t5_2 t5_3 t5_4 t79 t80 t81 => (Fn.labX_loop _ _ _ _ _ _ _ _ _ _ (by kernel_rfl)).trans (h2 t2_0 t2_1 t2_2 t2_3 t5_0 t5_1 t5_2 t5_3 t5_4 t79 t80 t81)
  show F125.labD (bodyOf Try.f125) tabR tyR true (cs125 s125 n) rec (d + 1) 1 _ = _
  rw [Fn.labD_succ, p125_1]
  simp only [e2]
  rfl
theorem m125_2 (s125 : Tm → Option Tm) (n : Nat) : ∀ m : Nat, (∀ t2_0 t2_1 t2_2 t2_3 t5_0 t5_1 t5_2 t5_3 t5_4 t79 t80 t81, F125.labM (bodyOf Try.f125) tabR tyR true (cs125 s125 n) m 2 (st125_2 t2_0 t2_1 t2_2 t2_3 t5_0 t5_1 t5_2 t5_3 t5_4 t79 t80 t81) = l125_2 s125 n m t2_0 t2_1 t2_2 t2_3 t5_0 t5_1 t5_2 t5_3 t5_4 t79 t80 t81) := by
  intro m
  induction m with
  | zero => exact fun _ _ _ _ _ _ _ _ _ _ _ _ => rfl
  | succ m ih =>
    intro t2_0 t2_1 t2_2 t2_3 t5_0 t5_1 t5_2 t5_3 t5_4 t79 t80 t81
    have e2 : ∀ t2_0 t2_1 t2_2 t2_3 t5_0 t5_1 t5_2 t5_3 t5_4 t79 t80 t81, F125.labX (bodyOf Try.f125) tabR tyR true (cs125 s125 n) (F125.labM (bodyOf Try.f125) tabR tyR true (cs125 s125 n) m) 3 2 (st125_2 t2_0 t2_1 t2_2 t2_3 t5_0 t5_1 t5_2 t5_3 t5_4 t79 t80 t81) = (l125_2 s125 n m) t2_0 t2_1 t2_2 t2_3 t5_0 t5_1 t5_2 t5_3 t5_4 t79 t80 t81 := fun t2_0 t2_1 t2_2 t2_3 t5_0 t5_1 t5_2 t5_3 t5_4 t79 t80 t81 => (Fn.labX_loop _ _ _ _ _ _ _ _ _ _ (by kernel_rfl)).trans (ih t2_0 t2_1 t2_2 t2_3 t5_0 t5_1 t5_2 t5_3 t5_4 t79 t80 t81)
    rw [Fn.labM_succ]
    show F125.labD (bodyOf Try.f125) tabR tyR true (cs125 s125 n) (F125.labM (bodyOf Try.f125) tabR tyR true (cs125 s125 n) m) (3 + 1) 2 _ = _
    rw [Fn.labD_succ, p125_2]
    simp only [e2]
    rfl
theorem w125 (s125 : Tm → Option Tm) (n : Nat) (x : PTs.den F125.ps) : F125.body (bodyOf Try.f125) tabR tyR true (cs125 s125 n) (F125.labX (bodyOf Try.f125) tabR tyR true (cs125 s125 n) (F125.labM (bodyOf Try.f125) tabR tyR true (cs125 s125 n) n) F125.D) x = o125_0 s125 n (c125_1 s125 n (l125_2 s125 n n)) x.1 := by
  have e1 : ∀ t1 t2_0 t2_1 t2_2 t2_3 t3 t4, F125.labX (bodyOf Try.f125) tabR tyR true (cs125 s125 n) (F125.labM (bodyOf Try.f125) tabR tyR true (cs125 s125 n) n) 4 1 (st125_1 t1 t2_0 t2_1 t2_2 t2_3 t3 t4) = c125_1 s125 n (l125_2 s125 n n) t1 t2_0 t2_1 t2_2 t2_3 t3 t4 := fun t1 t2_0 t2_1 t2_2 t2_3 t3 t4 => (Fn.labX_step _ _ _ _ _ _ _ _ _ _ (by kernel_rfl)).trans (n125_1 s125 n (F125.labM (bodyOf Try.f125) tabR tyR true (cs125 s125 n) n) (l125_2 s125 n n) (m125_2 s125 n n) 3 t1 t2_0 t2_1 t2_2 t2_3 t3 t4)
  show F125.body (bodyOf Try.f125) tabR tyR true (cs125 s125 n) (F125.labX (bodyOf Try.f125) tabR tyR true (cs125 s125 n) (F125.labM (bodyOf Try.f125) tabR tyR true (cs125 s125 n) n) 4) x = _
  rw [p125_0]
  simp only [e1]
  try rfl
theorem call125 : Callable Try.prog 125 := callable_of Try.func125 (by kernel_rfl) (by kernel_rfl)
theorem okr125 : ∀ n : Nat, Cal.Ok Try.prog ⟨125, F125.ps, F125.rs, F125.fr, fun a => f125 n a.1⟩
  | 0 => ⟨by kernel_rfl, fun a r h => by cases h⟩
  | n + 1 => cal_of_fn F125 (code := bodyOf Try.f125) Try.func125 (by kernel_rfl) (by kernel_rfl) call125 htabR (cs := cs125 (f125 n) n) (fun c hc => by
      simp only [cs125, List.mem_cons, List.not_mem_nil, or_false] at hc
      rcases hc with rfl | rfl | rfl
      · exact (okr125 n)
      · exact ok141
      · exact ok142 n) (fun _ => mixed) (by kernel_rfl) (by kernel_rfl) (by decide) (fun x => ⟨n, w125 (f125 n) n x⟩)
theorem ok125 (n : Nat) : Cal.Ok Try.prog ⟨125, F125.ps, F125.rs, F125.fr, fun a => f125 n a.1⟩ := (okr125 n)
-- tranship/strip.Strip
def o79_0 (n : Nat) (a0 : Tm) : Option Tm :=
  (f83 n a0).bind fun x1 =>
  if (!x1) then
    some (Tm.mk (0 : Int) (0 : Int) (0 : Int) (0 : Int) ([] : List Tm))
  else
    (f125 n a0).bind fun x2 =>
    some x2
def f79 (n : Nat) (a0 : Tm) : Option Tm := o79_0 n a0
def an79 : An := .z
def F79 : Fn := { f := 79, a := an79, vars := [.cell 2 45], ps := [.st .tm], rs := [.st .tm], own := false, fr := false, nt := 9, D := 2, loops := [] }
def cs79 (n : Nat) : List Cal := [⟨83, [.st .tm], [.sc .bool], true, fun a => f83 n a.1⟩, ⟨125, [.st .tm], [.st .tm], false, fun a => f125 n a.1⟩]
theorem p79_0 (n : Nat) (lab : Nat → SS → Option (RT.den F79.rs)) (x : PTs.den F79.ps) : F79.body (bodyOf Try.f79) tabR tyR true (cs79 n) lab x = o79_0 n x.1 := by kernel_rfl
theorem w79 (n : Nat) (x : PTs.den F79.ps) : F79.body (bodyOf Try.f79) tabR tyR true (cs79 n) (F79.labX (bodyOf Try.f79) tabR tyR true (cs79 n) (F79.labM (bodyOf Try.f79) tabR tyR true (cs79 n) 0) F79.D) x = o79_0 n x.1 := by
  show F79.body (bodyOf Try.f79) tabR tyR true (cs79 n) (F79.labX (bodyOf Try.f79) tabR tyR true (cs79 n) (F79.labM (bodyOf Try.f79) tabR tyR true (cs79 n) 0) 2) x = _
  rw [p79_0]
theorem call79 : Callable Try.prog 79 := callable_of Try.func79 (by kernel_rfl) (by kernel_rfl)
theorem ok79 (n : Nat) : Cal.Ok Try.prog ⟨79, F79.ps, F79.rs, F79.fr, fun a => f79 n a.1⟩ :=
  cal_of_fn F79 (code := bodyOf Try.f79) Try.func79 (by kernel_rfl) (by kernel_rfl) call79 htabR (cs := cs79 n) (fun c hc => by
      simp only [cs79, List.mem_cons, List.not_mem_nil, or_false] at hc
      rcases hc with rfl | rfl
      · exact ok83 n
      · exact ok125 n) (fun _ => mixed) (by kernel_rfl) (by kernel_rfl) (by decide) (fun x => ⟨0, w79 n x⟩)
-- tranship/transhipref04.lift
def o131_0 (s131 : Tm → Int → Int → Option (Tm × Bool)) (n : Nat) (k2 : Int → Int → Tm → Int → Int → Int → Int → Int → Int → Int → Int → Bool → Option (Tm × Bool)) (a0 : Tm) (a1 : Int) (a2 : Int) : Option (Tm × Bool) :=
  if (decide (a0.kind = (2 : Int))) then
    k2 a1 a2 a0 (0 : Int) (0 : Int) (0 : Int) (0 : Int) a0.kind a0.i a0.j a0.n (decide (a2 ≤ a0.i))
  else
    k2 a1 a2 a0 (0 : Int) (0 : Int) (0 : Int) (0 : Int) a0.kind a0.i a0.j a0.n false
def o131_1 (s131 : Tm → Int → Int → Option (Tm × Bool)) (n : Nat) (k3 : Int → Int → Tm → Int → Int → Int → Int → Int → Int → Int → Int → (List Tm) → Int → Option (Tm × Bool)) (t1 : Int) (t2 : Int) (t3 : Tm) (t6_0 : Int) (t6_1 : Int) (t6_2 : Int) (t6_3 : Int) (t8_0 : Int) (t8_1 : Int) (t8_2 : Int) (t8_3 : Int) : Option (Tm × Bool) :=
  k3 t1 t2 t3 t6_0 t6_1 t6_2 t6_3 t8_0 t8_1 t8_2 t8_3 ([] : List Tm) (0 : Int)
def o131_2 (s131 : Tm → Int → Int → Option (Tm × Bool)) (n : Nat) (k1 : Int → Int → Tm → Int → Int → Int → Int → Int → Int → Int → Int → Option (Tm × Bool)) (t1 : Int) (t2 : Int) (t3 : Tm) (t6_0 : Int) (t6_1 : Int) (t6_2 : Int) (t6_3 : Int) (t8_0 : Int) (t8_1 : Int) (t8_2 : Int) (t8_3 : Int) (t31 : Bool) : Option (Tm × Bool) :=
  if t31 then
    ckI ((2147483647 : Int) - t3.i) <|
    if (decide (((2147483647 : Int) - t3.i) < t1)) then
      some ((Tm.mk (0 : Int) (0 : Int) (0 : Int) (0 : Int) ([] : List Tm)), false)
    else
      ckI (t3.i + t1) <|
      k1 t1 t2 t3 t6_0 t6_1 t6_2 t6_3 t8_0 (t3.i + t1) t8_2 t8_3
  else
    k1 t1 t2 t3 t6_0 t6_1 t6_2 t6_3 t8_0 t8_1 t8_2 t8_3
def o131_3 (s131 : Tm → Int → Int → Option (Tm × Bool)) (n : Nat) (k4 : Int → Int → Tm → Int → Int → Int → Int → Int → Int → Int → Int → (List Tm) → Int → Int → Option (Tm × Bool)) (t1 : Int) (t2 : Int) (t3 : Tm) (t6_0 : Int) (t6_1 : Int) (t6_2 : Int) (t6_3 : Int) (t8_0 : Int) (t8_1 : Int) (t8_2 : Int) (t8_3 : Int) (t9 : List Tm) (t10 : Int) : Option (Tm × Bool) :=
  if (decide (t10 < (t3.kids.length : Int))) then
    (f60 t3.kind t10).bind fun x1 =>
    if (decide ((4611686018427387904 : Int) < t2)) then
      k4 t1 t2 t3 t6_0 t6_1 t6_2 t6_3 t8_0 t8_1 t8_2 t8_3 t9 t10 (0 : Int)
    else
      k4 t1 t2 t3 t6_0 t6_1 t6_2 t6_3 t8_0 t8_1 t8_2 t8_3 t9 t10 x1
  else
    some ((Tm.mk t8_0 t8_1 t8_2 t8_3 t9), true)
def o131_4 (s131 : Tm → Int → Int → Option (Tm × Bool)) (n : Nat) (k3 : Int → Int → Tm → Int → Int → Int → Int → Int → Int → Int → Int → (List Tm) → Int → Option (Tm × Bool)) (t1 : Int) (t2 : Int) (t3 : Tm) (t6_0 : Int) (t6_1 : Int) (t6_2 : Int) (t6_3 : Int) (t8_0 : Int) (t8_1 : Int) (t8_2 : Int) (t8_3 : Int) (t9 : List Tm) (t10 : Int) (t11 : Int) : Option (Tm × Bool) :=
  atI t3.kids t10 fun x2 =>
  ckI (t2 + t11) <|
  (s131 x2 t1 (t2 + t11)).bind fun x3 =>
  if (!x3.2) then
    some ((Tm.mk (0 : Int) (0 : Int) (0 : Int) (0 : Int) ([] : List Tm)), false)
  else
    ckB (decide ((t9.length + [(Tm.mk x3.1.kind x3.1.i x3.1.j x3.1.n x3.1.kids)].length) * 56 ≤ 140737488355328) && decide (t9.length + [(Tm.mk x3.1.kind x3.1.i x3.1.j x3.1.n x3.1.kids)].length ≤ 9223372036854775807)) <|
    ckI (t10 + (1 : Int)) <|
    k3 t1 t2 t3 t6_0 t6_1 t6_2 t6_3 t8_0 t8_1 t8_2 t8_3 (t9 ++ [(Tm.mk x3.1.kind x3.1.i x3.1.j x3.1.n x3.1.kids)]) (t10 + (1 : Int))
def c131_1 (s131 : Tm → Int → Int → Option (Tm × Bool)) (n : Nat) (k3 : Int → Int → Tm → Int → Int → Int → Int → Int → Int → Int → Int → (List Tm) → Int → Option (Tm × Bool)) (t1 : Int) (t2 : Int) (t3 : Tm) (t6_0 : Int) (t6_1 : Int) (t6_2 : Int) (t6_3 : Int) (t8_0 : Int) (t8_1 : Int) (t8_2 : Int) (t8_3 : Int) : Option (Tm × Bool) :=
  o131_1 s131 n k3 t1 t2 t3 t6_0 t6_1 t6_2 t6_3 t8_0 t8_1 t8_2 t8_3
def c131_2 (s131 : Tm → Int → Int → Option (Tm × Bool)) (n : Nat) (k3 : Int → Int → Tm → Int → Int → Int → Int → Int → Int → Int → Int → (List Tm) → Int → Option (Tm × Bool)) (t1 : Int) (t2 : Int) (t3 : Tm) (t6_0 : Int) (t6_1 : Int) (t6_2 : Int) (t6_3 : Int) (t8_0 : Int) (t8_1 : Int) (t8_2 : Int) (t8_3 : Int) (t31 : Bool) : Option (Tm × Bool) :=
  o131_2 s131 n (c131_1 s131 n k3) t1 t2 t3 t6_0 t6_1 t6_2 t6_3 t8_0 t8_1 t8_2 t8_3 t31
def c131_4 (s131 : Tm → Int → Int → Option (Tm × Bool)) (n : Nat) (k3 : Int → Int → Tm → Int → Int → Int → Int → Int → Int → Int → Int → (List Tm) → Int → Option (Tm × Bool)) (t1 : Int) (t2 : Int) (t3 : Tm) (t6_0 : Int) (t6_1 : Int) (t6_2 : Int) (t6_3 : Int) (t8_0 : Int) (t8_1 : Int) (t8_2 : Int) (t8_3 : Int) (t9 : List Tm) (t10 : Int) (t11 : Int) : Option (Tm × Bool) :=
  o131_4 s131 n k3 t1 t2 t3 t6_0 t6_1 t6_2 t6_3 t8_0 t8_1 t8_2 t8_3 t9 t10 t11
def l131_3 (s131 : Tm → Int → Int → Option (Tm × Bool)) (n : Nat) : Nat → Int → Int → Tm → Int → Int → Int → Int → Int → Int → Int → Int → (List Tm) → Int → Option (Tm × Bool)
  | 0, _, _, _, _, _, _, _, _, _, _, _, _, _ => none
  | m + 1, t1, t2, t3, t6_0, t6_1, t6_2, t6_3, t8_0, t8_1, t8_2, t8_3, t9, t10 => o131_3 s131 n (c131_4 s131 n (l131_3 s131 n m)) t1 t2 t3 t6_0 t6_1 t6_2 t6_3 t8_0 t8_1 t8_2 t8_3 t9 t10
def f131 : Nat → Tm → Int → Int → Option (Tm × Bool)
  | 0, _, _, _ => none
  | n + 1, a0, a1, a2 => o131_0 (f131 n) n (c131_2 (f131 n) n (l131_3 (f131 n) n n)) a0 a1 a2
def an131 : An := (.n none [] 0 .z (.n none [] 0 .z (.n (some 1) [(1, .one .c), (2, .one .c), (3, .ps 0 .tm false), (6, .p 1 [.c, .c, .c, .c, .k]), (8, .p 2 [.c, .c, .c, .c, .k])] 3 (.n (some 2) [(1, .one .c), (2, .one .c), (3, .ps 0 .tm false), (6, .p 1 [.c, .c, .c, .c, .k]), (8, .p 2 [.c, .c, .c, .c, .k]), (31, .one .c)] 3 .z .z) (.n none [] 0 .z (.n none [] 0 (.n none [] 0 .z (.n none [] 0 (.n (some 3) [(1, .one .c), (2, .one .c), (3, .ps 0 .tm false), (6, .p 1 [.c, .c, .c, .c, .k]), (8, .p 2 [.c, .c, .c, .c, .k]), (9, .one (.r 3 45 .tm true)), (10, .one .c)] 4 (.n none [] 0 .z (.n none [] 0 (.n none [] 0 (.n none [] 0 .z (.n (some 4) [(1, .one .c), (2, .one .c), (3, .ps 0 .tm false), (6, .p 1 [.c, .c, .c, .c, .k]), (8, .p 2 [.c, .c, .c, .c, .k]), (9, .one (.r 3 45 .tm true)), (10, .one .c), (11, .one .c)] 4 .z .z)) .z) .z)) .z) .z)) .z)))))
def F131 : Fn := { f := 131, a := an131, vars := [.cell 6 45, .tmp 7], ps := [.st .tm, .sc .int, .sc .int], rs := [.st .tm, .sc .bool], own := false, fr := true, nt := 79, D := 6, loops := [3] }
def cs131 (s131 : Tm → Int → Int → Option (Tm × Bool)) (n : Nat) : List Cal := [⟨60, [.sc .int, .sc .int], [.sc .int], true, fun a => f60 a.1 a.2.1⟩, ⟨131, [.st .tm, .sc .int, .sc .int], [.st .tm, .sc .bool], true, fun a => s131 a.1 a.2.1 a.2.2.1⟩]
def st131_1 (t1 : Int) (t2 : Int) (t3 : Tm) (t6_0 : Int) (t6_1 : Int) (t6_2 : Int) (t6_3 : Int) (t8_0 : Int) (t8_1 : Int) (t8_2 : Int) (t8_3 : Int) : SS := ⟨[(1, .v (.one (.c (.int t1) true))), (2, .v (.one (.c (.int t2) true))), (3, .v (.one (.ptr 0 0))), (6, .v (.one (.ptr 1 0))), (8, .v (.one (.ptr 2 0)))], [(0, some (.bst .tm t3 false)), (1, some (.box [.c (.int t6_0) true, .c (.int t6_1) true, .c (.int t6_2) true, .c (.int t6_3) true, .nils])), (2, some (.box [.c (.int t8_0) true, .c (.int t8_1) true, .c (.int t8_2) true, .c (.int t8_3) true, .nils]))], 3⟩
def st131_2 (t1 : Int) (t2 : Int) (t3 : Tm) (t6_0 : Int) (t6_1 : Int) (t6_2 : Int) (t6_3 : Int) (t8_0 : Int) (t8_1 : Int) (t8_2 : Int) (t8_3 : Int) (t31 : Bool) : SS := ⟨[(1, .v (.one (.c (.int t1) true))), (2, .v (.one (.c (.int t2) true))), (3, .v (.one (.ptr 0 0))), (6, .v (.one (.ptr 1 0))), (8, .v (.one (.ptr 2 0))), (31, .v (.one (.c (.bool t31) true)))], [(0, some (.bst .tm t3 false)), (1, some (.box [.c (.int t6_0) true, .c (.int t6_1) true, .c (.int t6_2) true, .c (.int t6_3) true, .nils])), (2, some (.box [.c (.int t8_0) true, .c (.int t8_1) true, .c (.int t8_2) true, .c (.int t8_3) true, .nils]))], 3⟩
def st131_3 (t1 : Int) (t2 : Int) (t3 : Tm) (t6_0 : Int) (t6_1 : Int) (t6_2 : Int) (t6_3 : Int) (t8_0 : Int) (t8_1 : Int) (t8_2 : Int) (t8_3 : Int) (t9 : List Tm) (t10 : Int) : SS := ⟨[(1, .v (.one (.c (.int t1) true))), (2, .v (.one (.c (.int t2) true))), (3, .v (.one (.ptr 0 0))), (6, .v (.one (.ptr 1 0))), (8, .v (.one (.ptr 2 0))), (9, .v (.one (.arr 3))), (10, .v (.one (.c (.int t10) true)))], [(0, some (.bst .tm t3 false)), (1, some (.box [.c (.int t6_0) true, .c (.int t6_1) true, .c (.int t6_2) true, .c (.int t6_3) true, .nils])), (2, some (.box [.c (.int t8_0) true, .c (.int t8_1) true, .c (.int t8_2) true, .c (.int t8_3) true, .nils])), (3, some (.row 45 .tm t9 true))], 4⟩
def st131_4 (t1 : Int) (t2 : Int) (t3 : Tm) (t6_0 : Int) (t6_1 : Int) (t6_2 : Int) (t6_3 : Int) (t8_0 : Int) (t8_1 : Int) (t8_2 : Int) (t8_3 : Int) (t9 : List Tm) (t10 : Int) (t11 : Int) : SS := ⟨[(1, .v (.one (.c (.int t1) true))), (2, .v (.one (.c (.int t2) true))), (3, .v (.one (.ptr 0 0))), (6, .v (.one (.ptr 1 0))), (8, .v (.one (.ptr 2 0))), (9, .v (.one (.arr 3))), (10, .v (.one (.c (.int t10) true))), (11, .v (.one (.c (.int t11) true)))], [(0, some (.bst .tm t3 false)), (1, some (.box [.c (.int t6_0) true, .c (.int t6_1) true, .c (.int t6_2) true, .c (.int t6_3) true, .nils])), (2, some (.box [.c (.int t8_0) true, .c (.int t8_1) true, .c (.int t8_2) true, .c (.int t8_3) true, .nils])), (3, some (.row 45 .tm t9 true))], 4⟩
theorem p131_0 (s131 : Tm → Int → Int → Option (Tm × Bool)) (n : Nat) (lab : Nat → SS → Option (RT.den F131.rs)) (x : PTs.den F131.ps) : F131.body (bodyOf Try.f131) tabR tyR true (cs131 s131 n) lab x = o131_0 s131 n (fun t1 t2 t3 t6_0 t6_1 t6_2 t6_3 t8_0 t8_1 t8_2 t8_3 t31 => lab 2 (st131_2 t1 t2 t3 t6_0 t6_1 t6_2 t6_3 t8_0 t8_1 t8_2 t8_3 t31)) x.1 x.2.1 x.2.2.1 := by kernel_rfl
theorem p131_1 (s131 : Tm → Int → Int → Option (Tm × Bool)) (n : Nat) (lab : Nat → SS → Option (RT.den F131.rs)) (t1 : Int) (t2 : Int) (t3 : Tm) (t6_0 : Int) (t6_1 : Int) (t6_2 : Int) (t6_3 : Int) (t8_0 : Int) (t8_1 : Int) (t8_2 : Int) (t8_3 : Int) : F131.at (bodyOf Try.f131) tabR tyR true (cs131 s131 n) lab 1 (st131_1 t1 t2 t3 t6_0 t6_1 t6_2 t6_3 t8_0 t8_1 t8_2 t8_3) = o131_1 s131 n (fun t1 t2 t3 t6_0 t6_1 t6_2 t6_3 t8_0 t8_1 t8_2 t8_3 t9 t10 => lab 3 (st131_3 t1 t2 t3 t6_0 t6_1 t6_2 t6_3 t8_0 t8_1 t8_2 t8_3 t9 t10)) t1 t2 t3 t6_0 t6_1 t6_2 t6_3 t8_0 t8_1 t8_2 t8_3 := by kernel_rfl
theorem p131_2 (s131 : Tm → Int → Int → Option (Tm × Bool)) (n : Nat) (lab : Nat → SS → Option (RT.den F131.rs)) (t1 : Int) (t2 : Int) (t3 : Tm) (t6_0 : Int) (t6_1 : Int) (t6_2 : Int) (t6_3 : Int) (t8_0 : Int) (t8_1 : Int) (t8_2 : Int) (t8_3 : Int) (t31 : Bool) : F131.at (bodyOf Try.f131) tabR tyR true (cs131 s131 n) lab 2 (st131_2 t1 t2 t3 t6_0 t6_1 t6_2 t6_3 t8_0 t8_1 t8_2 t8_3 t31) = o131_2 s131 n (fun t1 t2 t3 t6_0 t6_1 t6_2 t6_3 t8_0 t8_1 t8_2 t8_3 => lab 1 (st131_1 t1 t2 t3 t6_0 t6_1 t6_2 t6_3 t8_0 t8_1 t8_2 t8_3)) t1 t2 t3 t6_0 t6_1 t6_2 t6_3 t8_0 t8_1 t8_2 t8_3 t31 := by kernel_rfl
theorem p131_3 (s131 : Tm → Int → Int → Option (Tm × Bool)) (n : Nat) (lab : Nat → SS → Option (RT.den F131.rs)) (t1 : Int) (t2 : Int) (t3 : Tm) (t6_0 : Int) (t6_1 : Int) (t6_2 : Int) (t6_3 : Int) (t8_0 : Int) (t8_1 : Int) (t8_2 : Int) (t8_3 : Int) (t9 : List Tm) (t10 : Int) : F131.at (bodyOf Try.f131) tabR tyR true (cs131 s131 n) lab 3 (st131_3 t1 t2 t3 t6_0 t6_1 t6_2 t6_3 t8_0 t8_1 t8_2 t8_3 t9 t10) = o131_3 s131 n (fun t1 t2 t3 t6_0 t6_1 t6_2 t6_3 t8_0 t8_1 t8_2 t8_3 t9 t10 t11 => lab 4 (st131_4 t1 t2 t3 t6_0 t6_1 t6_2 t6_3 t8_0 t8_1 t8_2 t8_3 t9 t10 t11)) t1 t2 t3 t6_0 t6_1 t6_2 t6_3 t8_0 t8_1 t8_2 t8_3 t9 t10 := by kernel_rfl
theorem p131_4 (s131 : Tm → Int → Int → Option (Tm × Bool)) (n : Nat) (lab : Nat → SS → Option (RT.den F131.rs)) (t1 : Int) (t2 : Int) (t3 : Tm) (t6_0 : Int) (t6_1 : Int) (t6_2 : Int) (t6_3 : Int) (t8_0 : Int) (t8_1 : Int) (t8_2 : Int) (t8_3 : Int) (t9 : List Tm) (t10 : Int) (t11 : Int) : F131.at (bodyOf Try.f131) tabR tyR true (cs131 s131 n) lab 4 (st131_4 t1 t2 t3 t6_0 t6_1 t6_2 t6_3 t8_0 t8_1 t8_2 t8_3 t9 t10 t11) = o131_4 s131 n (fun t1 t2 t3 t6_0 t6_1 t6_2 t6_3 t8_0 t8_1 t8_2 t8_3 t9 t10 => lab 3 (st131_3 t1 t2 t3 t6_0 t6_1 t6_2 t6_3 t8_0 t8_1 t8_2 t8_3 t9 t10)) t1 t2 t3 t6_0 t6_1 t6_2 t6_3 t8_0 t8_1 t8_2 t8_3 t9 t10 t11 := by kernel_rfl
theorem n131_1 (s131 : Tm → Int → Int → Option (Tm × Bool)) (n : Nat) (rec : Nat → SS → Option (RT.den F131.rs)) (k3 : Int → Int → Tm → Int → Int → Int → Int → Int → Int → Int → Int → (List Tm) → Int → Option (Tm × Bool)) (h3 : ∀ t1 t2 t3 t6_0 t6_1 t6_2 t6_3 t8_0 t8_1 t8_2 t8_3 t9 t10, rec 3 (st131_3 t1 t2 t3 t6_0 t6_1 t6_2 t6_3 t8_0 t8_1 t8_2 t8_3 t9 t10) = k3 t1 t2 t3 t6_0 t6_1 t6_2 t6_3 t8_0 t8_1 t8_2 t8_3 t9 t10) (d : Nat) (t1 : Int) (t2 : Int) (t3 : Tm) (t6_0 : Int) (t6_1 : Int) (t6_2 : Int) (t6_3 : Int) (t8_0 : Int) (t8_1 : Int) (t8_2 : Int) (t8_3 : Int) : F131.labD (bodyOf Try.f131) tabR tyR true (cs131 s131 n) rec (d + 1) 1 (st131_1 t1 t2 t3 t6_0 t6_1 t6_2 t6_3 t8_0 t8_1 t8_2 t8_3) = c131_1 s131 n k3 t1 t2 t3 t6_0 t6_1 t6_2 t6_3 t8_0 t8_1 t8_2 t8_3 := by
  have e3 : ∀ t1 t2 t3 t6_0 t6_1 t6_2 t6_3 t8_0 t8_1 t8_2 t8_3 t9 t10, F131.labX (bodyOf Try.f131) tabR tyR true (cs131 s131 n) rec d 3 (st131_3 t1 t2 t3 t6_0 t6_1 t6_2 t6_3 t8_0 t8_1 t8_2 t8_3 t9 t10) = k3 t1 t2 t3 t6_0 t6_1 t6_2 t6_3 t8_0 t8_1 t8_2 t8_3 t9 t10 := fun t1 t2 t3 t6_0 t6_1 t6_2 t6_3 t8_0 t8_1 t8_2 t8_3 t9 t10 => (Fn.labX_loop _ _ _ _ _ _ _ _ _ _ (by kernel_rfl)).trans (h3 t1 t2 t3 t6_0 t6_1 t6_2 t6_3 t8_0 t8_1 t8_2 t8_3 t9 t10)
  show F131.labD (bodyOf Try.f131) tabR tyR true (cs131 s131 n) rec (d + 1) 1 _ = _
  rw [Fn.labD_succ, p131_1]
  simp only [e3]
  rfl
theorem n131_2 (s131 : Tm → Int → Int → Option (Tm × Bool)) (n : Nat) (rec : Nat → SS → Option (RT.den F131.rs)) (k3 : Int → Int → Tm → Int → Int → Int → Int → Int → Int → Int → Int → (List Tm) → Int → Option (Tm × Bool)) (h3 : ∀ t1 t2 t3 t6_0 t6_1 t6_2 t6_3 t8_0 t8_1 t8_2 t8_3 t9 t10, rec 3 (st131_3 t1 t2 t3 t6_0 t6_1 t6_2 t6_3 t8_0 t8_1 t8_2 t8_3 t9 t10) = k3 t1 t2 t3 t6_0 t6_1 t6_2 t6_3 t8_0 t8_1 t8_2 t8_3 t9 t10) (d : Nat) (t1 : Int) (t2 : Int) (t3 : Tm) (t6_0 : Int) (t6_1 : Int) (t6_2 : Int) (t6_3 : Int) (t8_0 : Int) (t8_1 : Int) (t8_2 : Int) (t8_3 : Int) (t31 : Bool) : F131.labD (bodyOf Try.f131) tabR tyR true (cs131 s131 n) rec (d + 2) 2 (st131_2 t1 t2 t3 t6_0 t6_1 t6_2 t6_3 t8_0 t8_1 t8_2 t8_3 t31) = c131_2 s131 n k3 t1 t2 t3 t6_0 t6_1 t6_2 t6_3 t8_0 t8_1 t8_2 t8_3 t31 := by
  have e1 : ∀ t1 t2 t3 t6_0 t6_1 t6_2 t6_3 t8_0 t8_1 t8_2 t8_3, F131.labX (bodyOf Try.f131) tabR tyR true (cs131 s131 n) rec (d + 1) 1 (st131_1 t1 t2 t3 t6_0 t6_1 t6_2 t6_3 t8_0 t8_1 t8_2 t8_3) = c131_1 s131 n k3 t1 t2 t3 t6_0 t6_1 t6_2 t6_3 t8_0 t8_1 t8_2 t8_3 := fun t1 t2 t3 t6_0 t6_1 t6_2 t6_3 t8_0 t8_1 t8_2 t8_3 => (Fn.labX_step _ _ _ _ _ _ _ _ _ _ (by kernel_rfl)).trans (n131_1 s131 n rec k3 h3 d t1 t2 t3 t6_0 t6_1 t6_2 t6_3 t8_0 t8_1 t8_2 t8_3)
  show F131.labD (bodyOf Try.f131) tabR tyR true (cs131 s131 n) rec ((d + 1) + 1) 2 _ = _
  rw [Fn.labD_succ, p131_2]
  simp only [e1]
  rfl
theorem n131_4 (s131 : Tm → Int → Int → Option (Tm × Bool)) (n : Nat) (rec : Nat → SS → Option (RT.den F131.rs)) (k3 : Int → Int → Tm → Int → Int → Int → Int → Int → Int → Int → Int → (List Tm) → Int → Option (Tm × Bool)) (h3 : ∀ t1 t2 t3 t6_0 t6_1 t6_2 t6_3 t8_0 t8_1 t8_2 t8_3 t9 t10, rec 3 (st131_3 t1 t2 t3 t6_0 t6_1 t6_2 t6_3 t8_0 t8_1 t8_2 t8_3 t9 t10) = k3 t1 t2 t3 t6_0 t6_1 t6_2 t6_3 t8_0 t8_1 t8_2 t8_3 t9 t10) (d : Nat) (t1 : Int) (t2 : Int) (t3 : Tm) (t6_0 : Int) (t6_1 : Int) (t6_2 : Int) (t6_3 : Int) (t8_0 : Int) (t8_1 : Int) (t8_2 : Int) (t8_3 : Int) (t9 : List Tm) (t10 : Int) (t11 : Int) : F131.labD (bodyOf Try.f131) tabR tyR true (cs131 s131 n) rec (d + 1) 4 (st131_4 t1 t2 t3 t6_0 t6_1 t6_2 t6_3 t8_0 t8_1 t8_2 t8_3 t9 t10 t11) = c131_4 s131 n k3 t1 t2 t3 t6_0 t6_1 t6_2 t6_3 t8_0 t8_1 t8_2 t8_3 t9 t10 t11 := by
  have e3 : ∀ t1 t2 t3 t6_0 t6_1 t6_2 t6_3 t8_0 t8_1 t8_2 t8_3 t9 t10, F131.labX (bodyOf Try.f131) tabR tyR true (cs131 s131 n) rec d 3 (st131_3 t1 t2 t3 t6_0 t6_1 t6_2 t6_3 t8_0 t8_1 t8_2 t8_3 t9 t10) = k3 t1 t2 t3 t6_0 t6_1 t6_2 t6_3 t8_0 t8_1 t8_2 t8_3 t9 t10 := fun t1 t2 t3 t6_0 t6_1 t6_2 t6_3 t8_0 t8_1 t8_2 t8_3 t9 t10 => (Fn.labX_loop _ _ _ _ _ _ _ _ _ _ (by kernel_rfl)).trans (h3 t1 t2 t3 t6_0 t6_1 t6_2 t6_3 t8_0 t8_1 t8_2 t8_3 t9 t10)
  show F131.labD (bodyOf Try.f131) tabR tyR true (cs131 s131 n) rec (d + 1) 4 _ = _
  rw [Fn.labD_succ, p131_4]
  simp only [e3]
  rfl
theorem m131_3 (s131 : Tm → Int → Int → Option (Tm × Bool)) (n : Nat) : ∀ m : Nat, (∀ t1 t2 t3 t6_0 t6_1 t6_2 t6_3 t8_0 t8_1 t8_2 t8_3 t9 t10, F131.labM (bodyOf Try.f131) tabR tyR true (cs131 s131 n) m 3 (st131_3 t1 t2 t3 t6_0 t6_1 t6_2 t6_3 t8_0 t8_1 t8_2 t8_3 t9 t10) = l131_3 s131 n m t1 t2 t3 t6_0 t6_1 t6_2 t6_3 t8_0 t8_1 t8_2 t8_3 t9 t10) := by
  intro m
  induction m with
  | zero => exact fun _ _ _ _ _ _ _ _ _ _ _ _ _ => rfl
  | succ m ih =>
    intro t1 t2 t3 t6_0 t6_1 t6_2 t6_3 t8_0 t8_1 t8_2 t8_3 t9 t10
    have e4 : ∀ t1 t2 t3 t6_0 t6_1 t6_2 t6_3 t8_0 t8_1 t8_2 t8_3 t9 t10 t11, F131.labX (bodyOf Try.f131) tabR tyR true (cs131 s131 n) (F131.labM (bodyOf Try.f131) tabR tyR true (cs131 s131 n) m) 5 4 (st131_4 t1 t2 t3 t6_0 t6_1 t6_2 t6_3 t8_0 t8_1 t8_2 t8_3 t9 t10 t11) = c131_4 s131 n (l131_3 s131 n m) t1 t2 t3 t6_0 t6_1 t6_2 t6_3 t8_0 t8_1 t8_2 t8_3 t9 t10 t11 := fun t1 t2 t3 t6_0 t6_1 t6_2 t6_3 t8_0 t8_1 t8_2 t8_3 t9 t10 t11 => (Fn.labX_step _ _ _ _ _ _ _ _ _ _ (by kernel_rfl)).trans (n131_4 s131 n (F131.labM (bodyOf Try.f131) tabR tyR true (cs131 s131 n) m) (l131_3 s131 n m) ih 4 t1 t2 t3 t6_0 t6_1 t6_2 t6_3 t8_0 t8_1 t8_2 t8_3 t9 t10 t11)
    rw [Fn.labM_succ]
    show F131.labD (bodyOf Try.f131) tabR tyR true (cs131 s131 n) (F131.labM (bodyOf Try.f131) tabR tyR true (cs131 s131 n) m) (5 + 1) 3 _ = _
    rw [Fn.labD_succ, p131_3]
    simp only [e4]
    rfl
theorem w131 (s131 : Tm → Int → Int → Option (Tm × Bool)) (n : Nat) (x : PTs.den F131.ps) : F131.body (bodyOf Try.f131) tabR tyR true (cs131 s131 n) (F131.labX (bodyOf Try.f131) tabR tyR true (cs131 s131 n) (F131.labM (bodyOf Try.f131) tabR tyR true (cs131 s131 n) n) F131.D) x = o131_0 s131 n (c131_2 s131 n (l131_3 s131 n n)) x.1 x.2.1 x.2.2.1 := by
  have e2 : ∀ t1 t2 t3 t6_0 t6_1 t6_2 t6_3 t8_0 t8_1 t8_2 t8_3 t31, F131.labX (bodyOf Try.f131) tabR tyR true (cs131 s131 n) (F131.labM (bodyOf Try.f131) tabR tyR true (cs131 s131 n) n) 6 2 (st131_2 t1 t2 t3 t6_0 t6_1 t6_2 t6_3 t8_0 t8_1 t8_2 t8_3 t31) = c131_2 s131 n (l131_3 s131 n n) t1 t2 t3 t6_0 t6_1 t6_2 t6_3 t8_0 t8_1 t8_2 t8_3 t31 := fun t1 t2 t3 t6_0 t6_1 t6_2 t6_3 t8_0 t8_1 t8_2 t8_3 t31 => (Fn.labX_step _ _ _ _ _ _ _ _ _ _ (by kernel_rfl)).trans (n131_2 s131 n (F131.labM (bodyOf Try.f131) tabR tyR true (cs131 s131 n) n) (l131_3 s131 n n) (m131_3 s131 n n) 4 t1 t2 t3 t6_0 t6_1 t6_2 t6_3 t8_0 t8_1 t8_2 t8_3 t31)
  show F131.body (bodyOf Try.f131) tabR tyR true (cs131 s131 n) (F131.labX (bodyOf Try.f131) tabR tyR true (cs131 s131 n) (F131.labM (bodyOf Try.f131) tabR tyR true (cs131 s131 n) n) 6) x = _
  rw [p131_0]
  simp only [e2]
  try rfl
theorem call131 : Callable Try.prog 131 := callable_of Try.func131 (by kernel_rfl) (by kernel_rfl)
theorem okr131 : ∀ n : Nat, Cal.Ok Try.prog ⟨131, F131.ps, F131.rs, F131.fr, fun a => f131 n a.1 a.2.1 a.2.2.1⟩
  | 0 => ⟨by kernel_rfl, fun a r h => by cases h⟩
  | n + 1 => cal_of_fn F131 (code := bodyOf Try.f131) Try.func131 (by kernel_rfl) (by kernel_rfl) call131 htabR (cs := cs131 (f131 n) n) (fun c hc => by
      simp only [cs131, List.mem_cons, List.not_mem_nil, or_false] at hc
      rcases hc with rfl | rfl
      · exact ok60
      · exact (okr131 n)) (fun _ => mixed) (by kernel_rfl) (by kernel_rfl) (by decide) (fun x => ⟨n, w131 (f131 n) n x⟩)
theorem ok131 (n : Nat) : Cal.Ok Try.prog ⟨131, F131.ps, F131.rs, F131.fr, fun a => f131 n a.1 a.2.1 a.2.2.1⟩ := (okr131 n)
-- tranship/transhipref04.Lift
def o91_0 (n : Nat) (k1 : Int → Int → Tm → Int → Int → Int → Int → Option Tm) (a0 : Tm) (a1 : Int) (a2 : Int) : Option Tm :=
  (f81 n a0).bind fun x1 =>
  if (!x1) then
    some (Tm.mk (0 : Int) (0 : Int) (0 : Int) (0 : Int) ([] : List Tm))
  else
    if (decide (a1 < (0 : Int))) then
      some (Tm.mk (0 : Int) (0 : Int) (0 : Int) (0 : Int) ([] : List Tm))
    else
      if (decide (a2 < (0 : Int))) then
        some (Tm.mk (0 : Int) (0 : Int) (0 : Int) (0 : Int) ([] : List Tm))
      else
        k1 a1 a2 a0 (0 : Int) (0 : Int) (0 : Int) (0 : Int)
def o91_1 (n : Nat) (t1 : Int) (t2 : Int) (t3 : Tm) (t6_0 : Int) (t6_1 : Int) (t6_2 : Int) (t6_3 : Int) : Option Tm :=
  (f131 n t3 t1 t2).bind fun x2 =>
  if (!x2.2) then
    some (Tm.mk (0 : Int) (0 : Int) (0 : Int) (0 : Int) ([] : List Tm))
  else
    some x2.1
def c91_1 (n : Nat) (t1 : Int) (t2 : Int) (t3 : Tm) (t6_0 : Int) (t6_1 : Int) (t6_2 : Int) (t6_3 : Int) : Option Tm :=
  o91_1 n t1 t2 t3 t6_0 t6_1 t6_2 t6_3
def f91 (n : Nat) (a0 : Tm) (a1 : Int) (a2 : Int) : Option Tm := o91_0 n (c91_1 n) a0 a1 a2
def an91 : An := (.n none [] 0 .z (.n (some 1) [(1, .one .c), (2, .one .c), (3, .ps 0 .tm false), (6, .p 1 [.c, .c, .c, .c, .k])] 2 .z .z))
def F91 : Fn := { f := 91, a := an91, vars := [.cell 6 45], ps := [.st .tm, .sc .int, .sc .int], rs := [.st .tm], own := false, fr := true, nt := 32, D := 3, loops := [] }
def cs91 (n : Nat) : List Cal := [⟨81, [.st .tm], [.sc .bool], true, fun a => f81 n a.1⟩, ⟨131, [.st .tm, .sc .int, .sc .int], [.st .tm, .sc .bool], true, fun a => f131 n a.1 a.2.1 a.2.2.1⟩]
def st91_1 (t1 : Int) (t2 : Int) (t3 : Tm) (t6_0 : Int) (t6_1 : Int) (t6_2 : Int) (t6_3 : Int) : SS := ⟨[(1, .v (.one (.c (.int t1) true))), (2, .v (.one (.c (.int t2) true))), (3, .v (.one (.ptr 0 0))), (6, .v (.one (.ptr 1 0)))], [(0, some (.bst .tm t3 false)), (1, some (.box [.c (.int t6_0) true, .c (.int t6_1) true, .c (.int t6_2) true, .c (.int t6_3) true, .nils]))], 2⟩
theorem p91_0 (n : Nat) (lab : Nat → SS → Option (RT.den F91.rs)) (x : PTs.den F91.ps) : F91.body (bodyOf Try.f91) tabR tyR true (cs91 n) lab x = o91_0 n (fun t1 t2 t3 t6_0 t6_1 t6_2 t6_3 => lab 1 (st91_1 t1 t2 t3 t6_0 t6_1 t6_2 t6_3)) x.1 x.2.1 x.2.2.1 := by kernel_rfl
theorem p91_1 (n : Nat) (lab : Nat → SS → Option (RT.den F91.rs)) (t1 : Int) (t2 : Int) (t3 : Tm) (t6_0 : Int) (t6_1 : Int) (t6_2 : Int) (t6_3 : Int) : F91.at (bodyOf Try.f91) tabR tyR true (cs91 n) lab 1 (st91_1 t1 t2 t3 t6_0 t6_1 t6_2 t6_3) = o91_1 n t1 t2 t3 t6_0 t6_1 t6_2 t6_3 := by kernel_rfl
theorem n91_1 (n : Nat) (rec : Nat → SS → Option (RT.den F91.rs)) (d : Nat) (t1 : Int) (t2 : Int) (t3 : Tm) (t6_0 : Int) (t6_1 : Int) (t6_2 : Int) (t6_3 : Int) : F91.labD (bodyOf Try.f91) tabR tyR true (cs91 n) rec (d + 1) 1 (st91_1 t1 t2 t3 t6_0 t6_1 t6_2 t6_3) = c91_1 n t1 t2 t3 t6_0 t6_1 t6_2 t6_3 := by
  show F91.labD (bodyOf Try.f91) tabR tyR true (cs91 n) rec (d + 1) 1 _ = _
  rw [Fn.labD_succ, p91_1]
  rfl
theorem w91 (n : Nat) (x : PTs.den F91.ps) : F91.body (bodyOf Try.f91) tabR tyR true (cs91 n) (F91.labX (bodyOf Try.f91) tabR tyR true (cs91 n) (F91.labM (bodyOf Try.f91) tabR tyR true (cs91 n) 0) F91.D) x = o91_0 n (c91_1 n) x.1 x.2.1 x.2.2.1 := by
  have e1 : ∀ t1 t2 t3 t6_0 t6_1 t6_2 t6_3, F91.labX (bodyOf Try.f91) tabR tyR true (cs91 n) (F91.labM (bodyOf Try.f91) tabR tyR true (cs91 n) 0) 3 1 (st91_1 t1 t2 t3 t6_0 t6_1 t6_2 t6_3) = c91_1 n t1 t2 t3 t6_0 t6_1 t6_2 t6_3 := fun t1 t2 t3 t6_0 t6_1 t6_2 t6_3 => (Fn.labX_step _ _ _ _ _ _ _ _ _ _ (by kernel_rfl)).trans (n91_1 n (F91.labM (bodyOf Try.f91) tabR tyR true (cs91 n) 0) 2 t1 t2 t3 t6_0 t6_1 t6_2 t6_3)
  show F91.body (bodyOf Try.f91) tabR tyR true (cs91 n) (F91.labX (bodyOf Try.f91) tabR tyR true (cs91 n) (F91.labM (bodyOf Try.f91) tabR tyR true (cs91 n) 0) 3) x = _
  rw [p91_0]
  simp only [e1]
  try rfl
theorem call91 : Callable Try.prog 91 := callable_of Try.func91 (by kernel_rfl) (by kernel_rfl)
theorem ok91 (n : Nat) : Cal.Ok Try.prog ⟨91, F91.ps, F91.rs, F91.fr, fun a => f91 n a.1 a.2.1 a.2.2.1⟩ :=
  cal_of_fn F91 (code := bodyOf Try.f91) Try.func91 (by kernel_rfl) (by kernel_rfl) call91 htabR (cs := cs91 n) (fun c hc => by
      simp only [cs91, List.mem_cons, List.not_mem_nil, or_false] at hc
      rcases hc with rfl | rfl
      · exact ok81 n
      · exact ok131 n) (fun _ => mixed) (by kernel_rfl) (by kernel_rfl) (by decide) (fun x => ⟨0, w91 n x⟩)
-- tranship/lift.Lift
def o92_0 (n : Nat) (k1 : Int → Int → Tm → Int → Int → Int → Int → Option Tm) (a0 : Tm) (a1 : Int) (a2 : Int) : Option Tm :=
  if (decide (a1 < (0 : Int))) then
    some (Tm.mk (0 : Int) (0 : Int) (0 : Int) (0 : Int) ([] : List Tm))
  else
    if (decide (a2 < (0 : Int))) then
      some (Tm.mk (0 : Int) (0 : Int) (0 : Int) (0 : Int) ([] : List Tm))
    else
      (f83 n a0).bind fun x1 =>
      if (!x1) then
        some (Tm.mk (0 : Int) (0 : Int) (0 : Int) (0 : Int) ([] : List Tm))
      else
        k1 a1 a2 a0 (0 : Int) (0 : Int) (0 : Int) (0 : Int)
def o92_1 (n : Nat) (t1 : Int) (t2 : Int) (t3 : Tm) (t6_0 : Int) (t6_1 : Int) (t6_2 : Int) (t6_3 : Int) : Option Tm :=
  (f132 n t3 t1 (min t2 (2147483648 : Int))).bind fun x2 =>
  if (!x2.2) then
    some (Tm.mk (0 : Int) (0 : Int) (0 : Int) (0 : Int) ([] : List Tm))
  else
    some x2.1
def c92_1 (n : Nat) (t1 : Int) (t2 : Int) (t3 : Tm) (t6_0 : Int) (t6_1 : Int) (t6_2 : Int) (t6_3 : Int) : Option Tm :=
  o92_1 n t1 t2 t3 t6_0 t6_1 t6_2 t6_3
def f92 (n : Nat) (a0 : Tm) (a1 : Int) (a2 : Int) : Option Tm := o92_0 n (c92_1 n) a0 a1 a2
def an92 : An := (.n none [] 0 .z (.n (some 1) [(1, .one .c), (2, .one .c), (3, .ps 0 .tm false), (6, .p 1 [.c, .c, .c, .c, .k])] 2 .z .z))
def F92 : Fn := { f := 92, a := an92, vars := [.cell 6 45], ps := [.st .tm, .sc .int, .sc .int], rs := [.st .tm], own := false, fr := true, nt := 33, D := 3, loops := [] }
def cs92 (n : Nat) : List Cal := [⟨83, [.st .tm], [.sc .bool], true, fun a => f83 n a.1⟩, ⟨132, [.st .tm, .sc .int, .sc .int], [.st .tm, .sc .bool], true, fun a => f132 n a.1 a.2.1 a.2.2.1⟩]
def st92_1 (t1 : Int) (t2 : Int) (t3 : Tm) (t6_0 : Int) (t6_1 : Int) (t6_2 : Int) (t6_3 : Int) : SS := ⟨[(1, .v (.one (.c (.int t1) true))), (2, .v (.one (.c (.int t2) true))), (3, .v (.one (.ptr 0 0))), (6, .v (.one (.ptr 1 0)))], [(0, some (.bst .tm t3 false)), (1, some (.box [.c (.int t6_0) true, .c (.int t6_1) true, .c (.int t6_2) true, .c (.int t6_3) true, .nils]))], 2⟩
theorem p92_0 (n : Nat) (lab : Nat → SS → Option (RT.den F92.rs)) (x : PTs.den F92.ps) : F92.body (bodyOf Try.f92) tabR tyR true (cs92 n) lab x = o92_0 n (fun t1 t2 t3 t6_0 t6_1 t6_2 t6_3 => lab 1 (st92_1 t1 t2 t3 t6_0 t6_1 t6_2 t6_3)) x.1 x.2.1 x.2.2.1 := by kernel_rfl
theorem p92_1 (n : Nat) (lab : Nat → SS → Option (RT.den F92.rs)) (t1 : Int) (t2 : Int) (t3 : Tm) (t6_0 : Int) (t6_1 : Int) (t6_2 : Int) (t6_3 : Int) : F92.at (bodyOf Try.f92) tabR tyR true (cs92 n) lab 1 (st92_1 t1 t2 t3 t6_0 t6_1 t6_2 t6_3) = o92_1 n t1 t2 t3 t6_0 t6_1 t6_2 t6_3 := by kernel_rfl
theorem n92_1 (n : Nat) (rec : Nat → SS → Option (RT.den F92.rs)) (d : Nat) (t1 : Int) (t2 : Int) (t3 : Tm) (t6_0 : Int) (t6_1 : Int) (t6_2 : Int) (t6_3 : Int) : F92.labD (bodyOf Try.f92) tabR tyR true (cs92 n) rec (d + 1) 1 (st92_1 t1 t2 t3 t6_0 t6_1 t6_2 t6_3) = c92_1 n t1 t2 t3 t6_0 t6_1 t6_2 t6_3 := by
  show F92.labD (bodyOf Try.f92) tabR tyR true (cs92 n) rec (d + 1) 1 _ = _
  rw [Fn.labD_succ, p92_1]
  rfl
theorem w92 (n : Nat) (x : PTs.den F92.ps) : F92.body (bodyOf Try.f92) tabR tyR true (cs92 n) (F92.labX (bodyOf Try.f92) tabR tyR true (cs92 n) (F92.labM (bodyOf Try.f92) tabR tyR true (cs92 n) 0) F92.D) x = o92_0 n (c92_1 n) x.1 x.2.1 x.2.2.1 := by
  have e1 : ∀ t1 t2 t3 t6_0 t6_1 t6_2 t6_3, F92.labX (bodyOf Try.f92) tabR tyR true (cs92 n) (F92.labM (bodyOf Try.f92) tabR tyR true (cs92 n) 0) 3 1 (st92_1 t1 t2 t3 t6_0 t6_1 t6_2 t6_3) = c92_1 n t1 t2 t3 t6_0 t6_1 t6_2 t6_3 := fun t1 t2 t3 t6_0 t6_1 t6_2 t6_3 => (Fn.labX_step _ _ _ _ _ _ _ _ _ _ (by kernel_rfl)).trans (n92_1 n (F92.labM (bodyOf Try.f92) tabR tyR true (cs92 n) 0) 2 t1 t2 t3 t6_0 t6_1 t6_2 t6_3)
  show F92.body (bodyOf Try.f92) tabR tyR true (cs92 n) (F92.labX (bodyOf Try.f92) tabR tyR true (cs92 n) (F92.labM (bodyOf Try.f92) tabR tyR true (cs92 n) 0) 3) x = _
  rw [p92_0]
  simp only [e1]
  try rfl
theorem call92 : Callable Try.prog 92 := callable_of Try.func92 (by kernel_rfl) (by kernel_rfl)
theorem ok92 (n : Nat) : Cal.Ok Try.prog ⟨92, F92.ps, F92.rs, F92.fr, fun a => f92 n a.1 a.2.1 a.2.2.1⟩ :=
  cal_of_fn F92 (code := bodyOf Try.f92) Try.func92 (by kernel_rfl) (by kernel_rfl) call92 htabR (cs := cs92 n) (fun c hc => by
      simp only [cs92, List.mem_cons, List.not_mem_nil, or_false] at hc
      rcases hc with rfl | rfl
      · exact ok83 n
      · exact ok132 n) (fun _ => mixed) (by kernel_rfl) (by kernel_rfl) (by decide) (fun x => ⟨0, w92 n x⟩)
-- tranship/lift.rename
def o134_0 (s134 : Tm → (List Int) → Int → Option (Tm × Bool)) (n : Nat) (k2 : (List Int) → Int → Tm → Int → Int → Int → Int → Bool → Option (Tm × Bool)) (a0 : Tm) (a1 : List Int) (a2 : Int) : Option (Tm × Bool) :=
  if (decide (a0.kind = (2 : Int))) then
    k2 a1 a2 a0 (0 : Int) (0 : Int) (0 : Int) (0 : Int) (decide (a2 ≤ a0.i))
  else
    k2 a1 a2 a0 (0 : Int) (0 : Int) (0 : Int) (0 : Int) false
def o134_1 (s134 : Tm → (List Int) → Int → Option (Tm × Bool)) (n : Nat) (k4 : (List Int) → Int → Tm → Int → Int → Int → Int → (List Tm) → (List Tm) → Int → Int → Option (Tm × Bool)) (t1 : List Int) (t2 : Int) (t3 : Tm) (t6_0 : Int) (t6_1 : Int) (t6_2 : Int) (t6_3 : Int) : Option (Tm × Bool) :=
  if (decide ((t3.kids.length : Int) = (0 : Int))) then
    some ((Tm.mk t3.kind t3.i t3.j t3.n ([] : List Tm)), true)
  else
    ckB (decide (0 ≤ (t3.kids.length : Int)) && (decide ((t3.kids.length : Int) ≤ (t3.kids.length : Int)) && decide ((56 : Nat) * (t3.kids.length : Int) ≤ 281474976710656))) <|
    k4 t1 t2 t3 t6_0 t6_1 t6_2 t6_3 (List.replicate (t3.kids.length : Int).toNat (Tm.mk (0 : Int) (0 : Int) (0 : Int) (0 : Int) ([] : List Tm))) t3.kids (t3.kids.length : Int) (0 : Int)
def o134_2 (s134 : Tm → (List Int) → Int → Option (Tm × Bool)) (n : Nat) (k1 : (List Int) → Int → Tm → Int → Int → Int → Int → Option (Tm × Bool)) (k3 : (List Int) → Int → Tm → Int → Int → Int → Int → Option (Tm × Bool)) (t1 : List Int) (t2 : Int) (t3 : Tm) (t6_0 : Int) (t6_1 : Int) (t6_2 : Int) (t6_3 : Int) (t21 : Bool) : Option (Tm × Bool) :=
  if t21 then
    ckI (t3.i - t2) <|
    if (decide ((t1.length : Int) ≤ (t3.i - t2))) then
      some ((Tm.mk (0 : Int) (0 : Int) (0 : Int) (0 : Int) ([] : List Tm)), false)
    else
      ckI (t3.i - t2) <|
      atI t1 (t3.i - t2) fun x1 =>
      ckI ((2147483647 : Int) - t2) <|
      if (decide (((2147483647 : Int) - t2) < x1)) then
        some ((Tm.mk (0 : Int) (0 : Int) (0 : Int) (0 : Int) ([] : List Tm)), false)
      else
        k3 t1 t2 t3 t6_0 t6_1 t6_2 t6_3
  else
    k1 t1 t2 t3 t6_0 t6_1 t6_2 t6_3
def o134_3 (s134 : Tm → (List Int) → Int → Option (Tm × Bool)) (n : Nat) (k1 : (List Int) → Int → Tm → Int → Int → Int → Int → Option (Tm × Bool)) (t1 : List Int) (t2 : Int) (t3 : Tm) (t6_0 : Int) (t6_1 : Int) (t6_2 : Int) (t6_3 : Int) : Option (Tm × Bool) :=
  ckI (t3.i - t2) <|
  atI t1 (t3.i - t2) fun x2 =>
  ckI (x2 + t2) <|
  k1 t1 t2 (Tm.mk t3.kind (x2 + t2) t3.j t3.n t3.kids) t6_0 t6_1 t6_2 t6_3
def o134_4 (s134 : Tm → (List Int) → Int → Option (Tm × Bool)) (n : Nat) (k4 : (List Int) → Int → Tm → Int → Int → Int → Int → (List Tm) → (List Tm) → Int → Int → Option (Tm × Bool)) (t1 : List Int) (t2 : Int) (t3 : Tm) (t6_0 : Int) (t6_1 : Int) (t6_2 : Int) (t6_3 : Int) (t8 : List Tm) (t63 : List Tm) (t64 : Int) (t65 : Int) : Option (Tm × Bool) :=
  if (decide (t65 < t64)) then
    atI t63 t65 fun x3 =>
    (f113 t3.kind t65).bind fun x4 =>
    ckI (t2 + x4) <|
    (s134 x3 t1 (t2 + x4)).bind fun x5 =>
    if (!x5.2) then
      some ((Tm.mk (0 : Int) (0 : Int) (0 : Int) (0 : Int) ([] : List Tm)), false)
    else
      ckB (decide (0 ≤ t65) && decide (t65 < t8.length)) <|
      ckB (decide (t65.toNat < t8.length)) <|
      ckI (t65 + (1 : Int)) <|
      k4 t1 t2 t3 t6_0 t6_1 t6_2 t6_3 (t8.set t65.toNat (Tm.mk x5.1.kind x5.1.i x5.1.j x5.1.n x5.1.kids)) t63 t64 (t65 + (1 : Int))
  else
    some ((Tm.mk t3.kind t3.i t3.j t3.n t8), true)
def c134_1 (s134 : Tm → (List Int) → Int → Option (Tm × Bool)) (n : Nat) (k4 : (List Int) → Int → Tm → Int → Int → Int → Int → (List Tm) → (List Tm) → Int → Int → Option (Tm × Bool)) (t1 : List Int) (t2 : Int) (t3 : Tm) (t6_0 : Int) (t6_1 : Int) (t6_2 : Int) (t6_3 : Int) : Option (Tm × Bool) :=
  o134_1 s134 n k4 t1 t2 t3 t6_0 t6_1 t6_2 t6_3
def c134_3 (s134 : Tm → (List Int) → Int → Option (Tm × Bool)) (n : Nat) (k4 : (List Int) → Int → Tm → Int → Int → Int → Int → (List Tm) → (List Tm) → Int → Int → Option (Tm × Bool)) (t1 : List Int) (t2 : Int) (t3 : Tm) (t6_0 : Int) (t6_1 : Int) (t6_2 : Int) (t6_3 : Int) : Option (Tm × Bool) :=
  o134_3 s134 n (c134_1 s134 n k4) t1 t2 t3 t6_0 t6_1 t6_2 t6_3
def c134_2 (s134 : Tm → (List Int) → Int → Option (Tm × Bool)) (n : Nat) (k4 : (List Int) → Int → Tm → Int → Int → Int → Int → (List Tm) → (List Tm) → Int → Int → Option (Tm × Bool)) (t1 : List Int) (t2 : Int) (t3 : Tm) (t6_0 : Int) (t6_1 : Int) (t6_2 : Int) (t6_3 : Int) (t21 : Bool) : Option (Tm × Bool) :=
  o134_2 s134 n (c134_1 s134 n k4) (c134_3 s134 n k4) t1 t2 t3 t6_0 t6_1 t6_2 t6_3 t21
def l134_4 (s134 : Tm → (List Int) → Int → Option (Tm × Bool)) (n : Nat) : Nat → (List Int) → Int → Tm → Int → Int → Int → Int → (List Tm) → (List Tm) → Int → Int → Option (Tm × Bool)
  | 0, _, _, _, _, _, _, _, _, _, _, _ => none
  | m + 1, t1, t2, t3, t6_0, t6_1, t6_2, t6_3, t8, t63, t64, t65 => o134_4 s134 n (l134_4 s134 n m) t1 t2 t3 t6_0 t6_1 t6_2 t6_3 t8 t63 t64 t65
def f134 : Nat → Tm → (List Int) → Int → Option (Tm × Bool)
  | 0, _, _, _ => none
  | n + 1, a0, a1, a2 => o134_0 (f134 n) n (c134_2 (f134 n) n (l134_4 (f134 n) n n)) a0 a1 a2
def an134 : An := (.n none [] 0 .z (.n (some 1) [(1, .one (.d .int false)), (2, .one .c), (3, .ps 0 .tm false), (6, .p 1 [.c, .c, .c, .c, .k])] 2 (.n (some 2) [(1, .one (.d .int false)), (2, .one .c), (3, .ps 0 .tm false), (6, .p 1 [.c, .c, .c, .c, .k]), (21, .one .c)] 2 .z (.n none [] 0 (.n (some 3) [(1, .one (.d .int false)), (2, .one .c), (3, .ps 0 .tm false), (6, .p 1 [.c, .c, .c, .c, .k])] 2 .z .z) .z)) (.n none [] 0 .z (.n none [] 0 .z (.n none [] 0 (.n none [] 0 .z (.n none [] 0 (.n (some 4) [(1, .one (.d .int false)), (2, .one .c), (3, .ps 0 .tm false), (6, .p 1 [.c, .c, .c, .c, .k]), (8, .one (.r 2 45 .tm true)), (63, .one (.d .tm false)), (64, .one .c), (65, .one .c)] 3 .z .z) .z)) .z)))))
def F134 : Fn := { f := 134, a := an134, vars := [.cell 6 45, .tmp 7], ps := [.st .tm, .sl .int, .sc .int], rs := [.st .tm, .sc .bool], own := false, fr := true, nt := 93, D := 6, loops := [4] }
def cs134 (s134 : Tm → (List Int) → Int → Option (Tm × Bool)) (n : Nat) : List Cal := [⟨113, [.sc .int, .sc .int], [.sc .int], true, fun a => f113 a.1 a.2.1⟩, ⟨134, [.st .tm, .sl .int, .sc .int], [.st .tm, .sc .bool], true, fun a => s134 a.1 a.2.1 a.2.2.1⟩]
def st134_1 (t1 : List Int) (t2 : Int) (t3 : Tm) (t6_0 : Int) (t6_1 : Int) (t6_2 : Int) (t6_3 : Int) : SS := ⟨[(1, .v (.one (.c (.sl .int t1) false))), (2, .v (.one (.c (.int t2) true))), (3, .v (.one (.ptr 0 0))), (6, .v (.one (.ptr 1 0)))], [(0, some (.bst .tm t3 false)), (1, some (.box [.c (.int t6_0) true, .c (.int t6_1) true, .c (.int t6_2) true, .c (.int t6_3) true, .nils]))], 2⟩
def st134_2 (t1 : List Int) (t2 : Int) (t3 : Tm) (t6_0 : Int) (t6_1 : Int) (t6_2 : Int) (t6_3 : Int) (t21 : Bool) : SS := ⟨[(1, .v (.one (.c (.sl .int t1) false))), (2, .v (.one (.c (.int t2) true))), (3, .v (.one (.ptr 0 0))), (6, .v (.one (.ptr 1 0))), (21, .v (.one (.c (.bool t21) true)))], [(0, some (.bst .tm t3 false)), (1, some (.box [.c (.int t6_0) true, .c (.int t6_1) true, .c (.int t6_2) true, .c (.int t6_3) true, .nils]))], 2⟩
def st134_3 (t1 : List Int) (t2 : Int) (t3 : Tm) (t6_0 : Int) (t6_1 : Int) (t6_2 : Int) (t6_3 : Int) : SS := ⟨[(1, .v (.one (.c (.sl .int t1) false))), (2, .v (.one (.c (.int t2) true))), (3, .v (.one (.ptr 0 0))), (6, .v (.one (.ptr 1 0)))], [(0, some (.bst .tm t3 false)), (1, some (.box [.c (.int t6_0) true, .c (.int t6_1) true, .c (.int t6_2) true, .c (.int t6_3) true, .nils]))], 2⟩
def st134_4 (t1 : List Int) (t2 : Int) (t3 : Tm) (t6_0 : Int) (t6_1 : Int) (t6_2 : Int) (t6_3 : Int) (t8 : List Tm) (t63 : List Tm) (t64 : Int) (t65 : Int) : SS := ⟨[(1, .v (.one (.c (.sl .int t1) false))), (2, .v (.one (.c (.int t2) true))), (3, .v (.one (.ptr 0 0))), (6, .v (.one (.ptr 1 0))), (8, .v (.one (.arr 2))), (63, .v (.one (.c (.sl .tm t63) false))), (64, .v (.one (.c (.int t64) true))), (65, .v (.one (.c (.int t65) true)))], [(0, some (.bst .tm t3 false)), (1, some (.box [.c (.int t6_0) true, .c (.int t6_1) true, .c (.int t6_2) true, .c (.int t6_3) true, .nils])), (2, some (.row 45 .tm t8 true))], 3⟩
theorem p134_0 (s134 : Tm → (List Int) → Int → Option (Tm × Bool)) (n : Nat) (lab : Nat → SS → Option (RT.den F134.rs)) (x : PTs.den F134.ps) : F134.body (bodyOf Try.f134) tabR tyR true (cs134 s134 n) lab x = o134_0 s134 n (fun t1 t2 t3 t6_0 t6_1 t6_2 t6_3 t21 => lab 2 (st134_2 t1 t2 t3 t6_0 t6_1 t6_2 t6_3 t21)) x.1 x.2.1 x.2.2.1 := by kernel_rfl
theorem p134_1 (s134 : Tm → (List Int) → Int → Option (Tm × Bool)) (n : Nat) (lab : Nat → SS → Option (RT.den F134.rs)) (t1 : List Int) (t2 : Int) (t3 : Tm) (t6_0 : Int) (t6_1 : Int) (t6_2 : Int) (t6_3 : Int) : F134.at (bodyOf Try.f134) tabR tyR true (cs134 s134 n) lab 1 (st134_1 t1 t2 t3 t6_0 t6_1 t6_2 t6_3) = o134_1 s134 n (fun t1 t2 t3 t6_0 t6_1 t6_2 t6_3 t8 t63 t64 t65 => lab 4 (st134_4 t1 t2 t3 t6_0 t6_1 t6_2 t6_3 t8 t63 t64 t65)) t1 t2 t3 t6_0 t6_1 t6_2 t6_3 := by kernel_rfl
theorem p134_2 (s134 : Tm → (List Int) → Int → Option (Tm × Bool)) (n : Nat) (lab : Nat → SS → Option (RT.den F134.rs)) (t1 : List Int) (t2 : Int) (t3 : Tm) (t6_0 : Int) (t6_1 : Int) (t6_2 : Int) (t6_3 : Int) (t21 : Bool) : F134.at (bodyOf Try.f134) tabR tyR true (cs134 s134 n) lab 2 (st134_2 t1 t2 t3 t6_0 t6_1 t6_2 t6_3 t21) = o134_2 s134 n (fun t1 t2 t3 t6_0 t6_1 t6_2 t6_3 => lab 1 (st134_1 t1 t2 t3 t6_0 t6_1 t6_2 t6_3)) (fun t1 t2 t3 t6_0 t6_1 t6_2 t6_3 => lab 3 (st134_3 t1 t2 t3 t6_0 t6_1 t6_2 t6_3)) t1 t2 t3 t6_0 t6_1 t6_2 t6_3 t21 := by kernel_rfl
theorem p134_3 (s134 : Tm → (List Int) → Int → Option (Tm × Bool)) (n : Nat) (lab : Nat → SS → Option (RT.den F134.rs)) (t1 : List Int) (t2 : Int) (t3 : Tm) (t6_0 : Int) (t6_1 : Int) (t6_2 : Int) (t6_3 : Int) : F134.at (bodyOf Try.f134) tabR tyR true (cs134 s134 n) lab 3 (st134_3 t1 t2 t3 t6_0 t6_1 t6_2 t6_3) = o134_3 s134 n (fun t1 t2 t3 t6_0 t6_1 t6_2 t6_3 => lab 1 (st134_1 t1 t2 t3 t6_0 t6_1 t6_2 t6_3)) t1 t2 t3 t6_0 t6_1 t6_2 t6_3 := by kernel_rfl
theorem p134_4 (s134 : Tm → (List Int) → Int → Option (Tm × Bool)) (n : Nat) (lab : Nat → SS → Option (RT.den F134.rs)) (t1 : List Int) (t2 : Int) (t3 : Tm) (t6_0 : Int) (t6_1 : Int) (t6_2 : Int) (t6_3 : Int) (t8 : List Tm) (t63 : List Tm) (t64 : Int) (t65 : Int) : F134.at (bodyOf Try.f134) tabR tyR true (cs134 s134 n) lab 4 (st134_4 t1 t2 t3 t6_0 t6_1 t6_2 t6_3 t8 t63 t64 t65) = o134_4 s134 n (fun t1 t2 t3 t6_0 t6_1 t6_2 t6_3 t8 t63 t64 t65 => lab 4 (st134_4 t1 t2 t3 t6_0 t6_1 t6_2 t6_3 t8 t63 t64 t65)) t1 t2 t3 t6_0 t6_1 t6_2 t6_3 t8 t63 t64 t65 := by kernel_rfl
theorem n134_1 (s134 : Tm → (List Int) → Int → Option (Tm × Bool)) (n : Nat) (rec : Nat → SS → Option (RT.den F134.rs)) (k4 : (List Int) → Int → Tm → Int → Int → Int → Int → (List Tm) → (List Tm) → Int → Int → Option (Tm × Bool)) (h4 : ∀ t1 t2 t3 t6_0 t6_1 t6_2 t6_3 t8 t63 t64 t65, rec 4 (st134_4 t1 t2 t3 t6_0 t6_1 t6_2 t6_3 t8 t63 t64 t65) = k4 t1 t2 t3 t6_0 t6_1 t6_2 t6_3 t8 t63 t64 t65) (d : Nat) (t1 : List Int) (t2 : Int) (t3 : Tm) (t6_0 : Int) (t6_1 : Int) (t6_2 : Int) (t6_3 : Int) : F134.labD (bodyOf Try.f134) tabR tyR true (cs134 s134 n) rec (d + 1) 1 (st134_1 t1 t2 t3 t6_0 t6_1 t6_2 t6_3) = c134_1 s134 n k4 t1 t2 t3 t6_0 t6_1 t6_2 t6_3 := by
  have e4 : ∀ t1 t2 t3 t6_0 t6_1 t6_2 t6_3 t8 t63 t64 t65, F134.labX (bodyOf Try.f134) tabR tyR true (cs134 s134 n) rec d 4 (st134_4 t1 t2 t3 t6_0 t6_1 t6_2 t6_3 t8 t63 t64 t65) = k4 t1 t2 t3 t6_0 t6_1 t6_2 t6_3 t8 t63 t64 t65 := fun t1 t2 t3 t6_0 t6_1 t6_2 t6_3 t8 t63 t64 t65 => (Fn.labX_loop _ _ _ _ _ _ _ _ _ _ (by kernel_rfl)).trans (h4 t1 t2 t3 t6_0 t6_1 t6_2 t6_3 t8 t63 t64 t65)
  show F134.labD (bodyOf Try.f134) tabR tyR true (cs134 s134 n) rec (d + 1) 1 _ = _
  rw [Fn.labD_succ, p134_1]
  simp only [e4]
  rfl
theorem n134_3 (s134 : Tm → (List Int) → Int → Option (Tm × Bool)) (n : Nat) (rec : Nat → SS → Option (RT.den F134.rs)) (k4 : (List Int) → Int → Tm → Int → Int → Int → Int → (List Tm) → (List Tm) → Int → Int → Option (Tm × Bool)) (h4 : ∀ t1 t2 t3 t6_0 t6_1 t6_2 t6_3 t8 t63 t64 t65, rec 4 (st134_4 t1 t2 t3 t6_0 t6_1 t6_2 t6_3 t8 t63 t64 t65) = k4 t1 t2 t3 t6_0 t6_1 t6_2 t6_3 t8 t63 t64 t65) (d : Nat) (t1 : List Int) (t2 : Int) (t3 : Tm) (t6_0 : Int) (t6_1 : Int) (t6_2 : Int) (t6_3 : Int) : F134.labD (bodyOf Try.f134) tabR tyR true (cs134 s134 n) rec (d + 2) 3 (st134_3 t1 t2 t3 t6_0 t6_1 t6_2 t6_3) = c134_3 s134 n k4 t1 t2 t3 t6_0 t6_1 t6_2 t6_3 := by
  have e1 : ∀ t1 t2 t3 t6_0 t6_1 t6_2 t6_3, F134.labX (bodyOf Try.f134) tabR tyR true (cs134 s134 n) rec (d + 1) 1 (st134_1 t1 t2 t3 t6_0 t6_1 t6_2 t6_3) = c134_1 s134 n k4 t1 t2 t3 t6_0 t6_1 t6_2 t6_3 := fun t1 t2 t3 t6_0 t6_1 t6_2 t6_3 => (Fn.labX_step _ _ _ _ _ _ _ _ _ _ (by kernel_rfl)).trans (n134_1 s134 n rec k4 h4 d t1 t2 t3 t6_0 t6_1 t6_2 t6_3)
  show F134.labD (bodyOf Try.f134) tabR tyR true (cs134 s134 n) rec ((d + 1) + 1) 3 _ = _
  rw [Fn.labD_succ, p134_3]
  simp only [e1]
  rfl
theorem n134_2 (s134 : Tm → (List Int) → Int → Option (Tm × Bool)) (n : Nat) (rec : Nat → SS → Option (RT.den F134.rs)) (k4 : (List Int) → Int → Tm → Int → Int → Int → Int → (List Tm) → (List Tm) → Int → Int → Option (Tm × Bool)) (h4 : ∀ t1 t2 t3 t6_0 t6_1 t6_2 t6_3 t8 t63 t64 t65, rec 4 (st134_4 t1 t2 t3 t6_0 t6_1 t6_2 t6_3 t8 t63 t64 t65) = k4 t1 t2 t3 t6_0 t6_1 t6_2 t6_3 t8 t63 t64 t65) (d : Nat) (t1 : List Int) (t2 : Int) (t3 : Tm) (t6_0 : Int) (t6_1 : Int) (t6_2 : Int) (t6_3 : Int) (t21 : Bool) : F134.labD (bodyOf Try.f134) tabR tyR true (cs134 s134 n) rec (d + 3) 2 (st134_2 t1 t2 t3 t6_0 t6_1 t6_2 t6_3 t21) = c134_2 s134 n k4 t1 t2 t3 t6_0 t6_1 t6_2 t6_3 t21 := by
  have e1 : ∀ t1 t2 t3 t6_0 t6_1 t6_2 t6_3, F134.labX (bodyOf Try.f134) tabR tyR true (cs134 s134 n) rec (d + 2) 1 (st134_1 t1 t2 t3 t6_0 t6_1 t6_2 t6_3) = c134_1 s134 n k4 t1 t2 t3 t6_0 t6_1 t6_2 t6_3 := fun t1 t2 t3 t6_0 t6_1 t6_2 t6_3 => (Fn.labX_step _ _ _ _ _ _ _ _ _ _ (by kernel_rfl)).trans (n134_1 s134 n rec k4 h4 (d + 1) t1 t2 t3 t6_0 t6_1 t6_2 t6_3)
  have e3 : ∀ t1 t2 t3 t6_0 t6_1 t6_2 t6_3, F134.labX (bodyOf Try.f134) tabR tyR true (cs134 s134 n) rec (d + 2) 3 (st134_3 t1 t2 t3 t6_0 t6_1 t6_2 t6_3) = c134_3 s134 n k4 t1 t2 t3 t6_0 t6_1 t6_2 t6_3 := fun t1 t2 t3 t6_0 t6_1 t6_2 t6_3 => (Fn.labX_step _ _ _ _ _ _ _ _ _ _ (by kernel_rfl)).trans (n134_3 s134 n rec k4 h4 d t1 t2 t3 t6_0 t6_1 t6_2 t6_3)
  show F134.labD (bodyOf Try.f134) tabR tyR true (cs134 s134 n) rec ((d + 2) + 1) 2 _ = _
  rw [Fn.labD_succ, p134_2]
  simp only [e1, e3]
  rfl
theorem m134_4 (s134 : Tm → (List Int) → Int → Option (Tm × Bool)) (n : Nat) : ∀ m : Nat, (∀ t1 t2 t3 t6_0 t6_1 t6_2 t6_3 t8 t63 t64 t65, F134.labM (bodyOf Try.f134) tabR tyR true (cs134 s134 n) m 4 (st134_4 t1 t2 t3 t6_0 t6_1 t6_2 t6_3 t8 t63 t64 t65) = l134_4 s134 n m t1 t2 t3 t6_0 t6_1 t6_2 t6_3 t8 t63 t64 t65) := by
  intro m
  induction m with
  | zero => exact fun _ _ _ _ _ _ _ _ _ _ _ => rfl
  | succ m ih =>
    intro t1 t2 t3 t6_0 t6_1 t6_2 t6_3 t8 t63 t64 t65
    have e4 : ∀ t1 t2 t3 t6_0 t6_1 t6_2 t6_3 t8 t63 t64 t65, F134.labX (bodyOf Try.f134) tabR tyR true (cs134 s134 n) (F134.labM (bodyOf Try.f134) tabR tyR true (cs134 s134 n) m) 5 4 (st134_4 t1 t2 t3 t6_0 t6_1 t6_2 t6_3 t8 t63 t64 t65) = (l134_4 s134 n m) t1 t2 t3 t6_0 t6_1 t6_2 t6_3 t8 t63 t64 t65 := fun t1 t2 t3 t6_0 t6_1 t6_2 t6_3 t8 t63 t64 t65 => (Fn.labX_loop _ _ _ _ _ _ _ _ _ _ (by kernel_rfl)).trans (ih t1 t2 t3 t6_0 t6_1 t6_2 t6_3 t8 t63 t64 t65)
    rw [Fn.labM_succ]
    show F134.labD (bodyOf Try.f134) tabR tyR true (cs134 s134 n) (F134.labM (bodyOf Try.f134) tabR tyR true (cs134 s134 n) m) (5 + 1) 4 _ = _
    rw [Fn.labD_succ, p134_4]
    simp only [e4]
    rfl
theorem w134 (s134 : Tm → (List Int) → Int → Option (Tm × Bool)) (n : Nat) (x : PTs.den F134.ps) : F134.body (bodyOf Try.f134) tabR tyR true (cs134 s134 n) (F134.labX (bodyOf Try.f134) tabR tyR true (cs134 s134 n) (F134.labM (bodyOf Try.f134) tabR tyR true (cs134 s134 n) n) F134.D) x = o134_0 s134 n (c134_2 s134 n (l134_4 s134 n n)) x.1 x.2.1 x.2.2.1 := by
  have e2 : ∀ t1 t2 t3 t6_0 t6_1 t6_2 t6_3 t21, F134.labX (bodyOf Try.f134) tabR tyR true (cs134 s134 n) (F134.labM (bodyOf Try.f134) tabR tyR true (cs134 s134 n) n) 6 2 (st134_2 t1 t2 t3 t6_0 t6_1 t6_2 t6_3 t21) = c134_2 s134 n (l134_4 s134 n n) t1 t2 t3 t6_0 t6_1 t6_2 t6_3 t21 := fun t1 t2 t3 t6_0 t6_1 t6_2 t6_3 t21 => (Fn.labX_step _ _ _ _ _ _ _ _ _ _ (by kernel_rfl)).trans (n134_2 s134 n (F134.labM (bodyOf Try.f134) tabR tyR true (cs134 s134 n) n) (l134_4 s134 n n) (m134_4 s134 n n) 3 t1 t2 t3 t6_0 t6_1 t6_2 t6_3 t21)
  show F134.body (bodyOf Try.f134) tabR tyR true (cs134 s134 n) (F134.labX (bodyOf Try.f134) tabR tyR true (cs134 s134 n) (F134.labM (bodyOf Try.f134) tabR tyR true (cs134 s134 n) n) 6) x = _
  rw [p134_0]
  simp only [e2]
  try rfl
theorem call134 : Callable Try.prog 134 := callable_of Try.func134 (by kernel_rfl) (by kernel_rfl)
theorem okr134 : ∀ n : Nat, Cal.Ok Try.prog ⟨134, F134.ps, F134.rs, F134.fr, fun a => f134 n a.1 a.2.1 a.2.2.1⟩
  | 0 => ⟨by kernel_rfl, fun a r h => by cases h⟩
  | n + 1 => cal_of_fn F134 (code := bodyOf Try.f134) Try.func134 (by kernel_rfl) (by kernel_rfl) call134 htabR (cs := cs134 (f134 n) n) (fun c hc => by
      simp only [cs134, List.mem_cons, List.not_mem_nil, or_false] at hc
      rcases hc with rfl | rfl
      · exact ok113
      · exact (okr134 n)) (fun _ => mixed) (by kernel_rfl) (by kernel_rfl) (by decide) (fun x => ⟨n, w134 (f134 n) n x⟩)
theorem ok134 (n : Nat) : Cal.Ok Try.prog ⟨134, F134.ps, F134.rs, F134.fr, fun a => f134 n a.1 a.2.1 a.2.2.1⟩ := (okr134 n)
-- tranship/lift.Rename
def o94_0 (n : Nat) (k1 : (List Int) → Tm → Int → Int → Int → Int → (List Int) → Int → Int → Option (Tm × Bool)) (a0 : Tm) (a1 : List Int) : Option (Tm × Bool) :=
  k1 a1 a0 (0 : Int) (0 : Int) (0 : Int) (0 : Int) a1 (a1.length : Int) (0 : Int)
def o94_1 (n : Nat) (k1 : (List Int) → Tm → Int → Int → Int → Int → (List Int) → Int → Int → Option (Tm × Bool)) (t1 : List Int) (t2 : Tm) (t4_0 : Int) (t4_1 : Int) (t4_2 : Int) (t4_3 : Int) (t8 : List Int) (t9 : Int) (t10 : Int) : Option (Tm × Bool) :=
  if (decide (t10 < t9)) then
    atI t8 t10 fun x1 =>
    if (decide (x1 < (0 : Int))) then
      some ((Tm.mk (0 : Int) (0 : Int) (0 : Int) (0 : Int) ([] : List Tm)), false)
    else
      if (decide ((1073741824 : Int) < x1)) then
        some ((Tm.mk (0 : Int) (0 : Int) (0 : Int) (0 : Int) ([] : List Tm)), false)
      else
        ckI (t10 + (1 : Int)) <|
        k1 t1 t2 t4_0 t4_1 t4_2 t4_3 t8 t9 (t10 + (1 : Int))
  else
    (f83 n t2).bind fun x2 =>
    if (!x2) then
      some ((Tm.mk (0 : Int) (0 : Int) (0 : Int) (0 : Int) ([] : List Tm)), false)
    else
      (f134 n t2 t1 (0 : Int)).bind fun x3 =>
      some (x3.1, x3.2)
def l94_1 (n : Nat) : Nat → (List Int) → Tm → Int → Int → Int → Int → (List Int) → Int → Int → Option (Tm × Bool)
  | 0, _, _, _, _, _, _, _, _, _ => none
  | m + 1, t1, t2, t4_0, t4_1, t4_2, t4_3, t8, t9, t10 => o94_1 n (l94_1 n m) t1 t2 t4_0 t4_1 t4_2 t4_3 t8 t9 t10
def f94 (n : Nat) (a0 : Tm) (a1 : List Int) : Option (Tm × Bool) := o94_0 n (l94_1 n n) a0 a1
def an94 : An := (.n none [] 0 .z (.n none [] 0 (.n none [] 0 .z (.n none [] 0 (.n (some 1) [(1, .one (.d .int false)), (2, .ps 0 .tm false), (4, .p 1 [.c, .c, .c, .c, .k]), (8, .one (.d .int false)), (9, .one .c), (10, .one .c)] 2 .z .z) .z)) .z))
def F94 : Fn := { f := 94, a := an94, vars := [.cell 4 45, .tmp 5], ps := [.st .tm, .sl .int], rs := [.st .tm, .sc .bool], own := false, fr := true, nt := 31, D := 3, loops := [1] }
def cs94 (n : Nat) : List Cal := [⟨83, [.st .tm], [.sc .bool], true, fun a => f83 n a.1⟩, ⟨134, [.st .tm, .sl .int, .sc .int], [.st .tm, .sc .bool], true, fun a => f134 n a.1 a.2.1 a.2.2.1⟩]
def st94_1 (t1 : List Int) (t2 : Tm) (t4_0 : Int) (t4_1 : Int) (t4_2 : Int) (t4_3 : Int) (t8 : List Int) (t9 : Int) (t10 : Int) : SS := ⟨[(1, .v (.one (.c (.sl .int t1) false))), (2, .v (.one (.ptr 0 0))), (4, .v (.one (.ptr 1 0))), (8, .v (.one (.c (.sl .int t8) false))), (9, .v (.one (.c (.int t9) true))), (10, .v (.one (.c (.int t10) true)))], [(0, some (.bst .tm t2 false)), (1, some (.box [.c (.int t4_0) true, .c (.int t4_1) true, .c (.int t4_2) true, .c (.int t4_3) true, .nils]))], 2⟩
theorem p94_0 (n : Nat) (lab : Nat → SS → Option (RT.den F94.rs)) (x : PTs.den F94.ps) : F94.body (bodyOf Try.f94) tabR tyR true (cs94 n) lab x = o94_0 n (fun t1 t2 t4_0 t4_1 t4_2 t4_3 t8 t9 t10 => lab 1 (st94_1 t1 t2 t4_0 t4_1 t4_2 t4_3 t8 t9 t10)) x.1 x.2.1 := by kernel_rfl
theorem p94_1 (n : Nat) (lab : Nat → SS → Option (RT.den F94.rs)) (t1 : List Int) (t2 : Tm) (t4_0 : Int) (t4_1 : Int) (t4_2 : Int) (t4_3 : Int) (t8 : List Int) (t9 : Int) (t10 : Int) : F94.at (bodyOf Try.f94) tabR tyR true (cs94 n) lab 1 (st94_1 t1 t2 t4_0 t4_1 t4_2 t4_3 t8 t9 t10) = o94_1 n (fun t1 t2 t4_0 t4_1 t4_2 t4_3 t8 t9 t10 => lab 1 (st94_1 t1 t2 t4_0 t4_1 t4_2 t4_3 t8 t9 t10)) t1 t2 t4_0 t4_1 t4_2 t4_3 t8 t9 t10 := by kernel_rfl
theorem m94_1 (n : Nat) : ∀ m : Nat, (∀ t1 t2 t4_0 t4_1 t4_2 t4_3 t8 t9 t10, F94.labM (bodyOf Try.f94) tabR tyR true (cs94 n) m 1 (st94_1 t1 t2 t4_0 t4_1 t4_2 t4_3 t8 t9 t10) = l94_1 n m t1 t2 t4_0 t4_1 t4_2 t4_3 t8 t9 t10) := by
  intro m
  induction m with
  | zero => exact fun _ _ _ _ _ _ _ _ _ => rfl
  | succ m ih =>
    intro t1 t2 t4_0 t4_1 t4_2 t4_3 t8 t9 t10
    have e1 : ∀ t1 t2 t4_0 t4_1 t4_2 t4_3 t8 t9 t10, F94.labX (bodyOf Try.f94) tabR tyR true (cs94 n) (F94.labM (bodyOf Try.f94) tabR tyR true (cs94 n) m) 2 1 (st94_1 t1 t2 t4_0 t4_1 t4_2 t4_3 t8 t9 t10) = (l94_1 n m) t1 t2 t4_0 t4_1 t4_2 t4_3 t8 t9 t10 := fun t1 t2 t4_0 t4_1 t4_2 t4_3 t8 t9 t10 => (Fn.labX_loop _ _ _ _ _ _ _ _ _ _ (by kernel_rfl)).trans (ih t1 t2 t4_0 t4_1 t4_2 t4_3 t8 t9 t10)
    rw [Fn.labM_succ]
    show F94.labD (bodyOf Try.f94) tabR tyR true (cs94 n) (F94.labM (bodyOf Try.f94) tabR tyR true (cs94 n) m) (2 + 1) 1 _ = _
    rw [Fn.labD_succ, p94_1]
    simp only [e1]
    rfl
theorem w94 (n : Nat) (x : PTs.den F94.ps) : F94.body (bodyOf Try.f94) tabR tyR true (cs94 n) (F94.labX (bodyOf Try.f94) tabR tyR true (cs94 n) (F94.labM (bodyOf Try.f94) tabR tyR true (cs94 n) n) F94.D) x = o94_0 n (l94_1 n n) x.1 x.2.1 := by
  have e1 : ∀ t1 t2 t4_0 t4_1 t4_2 t4_3 t8 t9 t10, F94.labX (bodyOf Try.f94) tabR tyR true (cs94 n) (F94.labM (bodyOf Try.f94) tabR tyR true (cs94 n) n) 3 1 (st94_1 t1 t2 t4_0 t4_1 t4_2 t4_3 t8 t9 t10) = (l94_1 n n) t1 t2 t4_0 t4_1 t4_2 t4_3 t8 t9 t10 := fun t1 t2 t4_0 t4_1 t4_2 t4_3 t8 t9 t10 => (Fn.labX_loop _ _ _ _ _ _ _ _ _ _ (by kernel_rfl)).trans ((m94_1 n n) t1 t2 t4_0 t4_1 t4_2 t4_3 t8 t9 t10)
  show F94.body (bodyOf Try.f94) tabR tyR true (cs94 n) (F94.labX (bodyOf Try.f94) tabR tyR true (cs94 n) (F94.labM (bodyOf Try.f94) tabR tyR true (cs94 n) n) 3) x = _
  rw [p94_0]
  simp only [e1]
  try rfl
theorem call94 : Callable Try.prog 94 := callable_of Try.func94 (by kernel_rfl) (by kernel_rfl)
theorem ok94 (n : Nat) : Cal.Ok Try.prog ⟨94, F94.ps, F94.rs, F94.fr, fun a => f94 n a.1 a.2.1⟩ :=
  cal_of_fn F94 (code := bodyOf Try.f94) Try.func94 (by kernel_rfl) (by kernel_rfl) call94 htabR (cs := cs94 n) (fun c hc => by
      simp only [cs94, List.mem_cons, List.not_mem_nil, or_false] at hc
      rcases hc with rfl | rfl
      · exact ok83 n
      · exact ok134 n) (fun _ => mixed) (by kernel_rfl) (by kernel_rfl) (by decide) (fun x => ⟨n, w94 n x⟩)
-- tranship/transhipref04.rename
def o135_0 (s135 : Tm → (List Int) → Int → Option Tm) (n : Nat) (k2 : (List Int) → Int → Tm → Int → Int → Int → Int → Int → Int → Int → Int → Bool → Option Tm) (a0 : Tm) (a1 : List Int) (a2 : Int) : Option Tm :=
  if (decide (a0.kind = (2 : Int))) then
    k2 a1 a2 a0 (0 : Int) (0 : Int) (0 : Int) (0 : Int) a0.kind a0.i a0.j a0.n (decide (a2 ≤ a0.i))
  else
    k2 a1 a2 a0 (0 : Int) (0 : Int) (0 : Int) (0 : Int) a0.kind a0.i a0.j a0.n false
def o135_1 (s135 : Tm → (List Int) → Int → Option Tm) (n : Nat) (k3 : (List Int) → Int → Tm → Int → Int → Int → Int → Int → Int → Int → Int → (List Tm) → Int → Option Tm) (t1 : List Int) (t2 : Int) (t3 : Tm) (t6_0 : Int) (t6_1 : Int) (t6_2 : Int) (t6_3 : Int) (t7_0 : Int) (t7_1 : Int) (t7_2 : Int) (t7_3 : Int) : Option Tm :=
  k3 t1 t2 t3 t6_0 t6_1 t6_2 t6_3 t7_0 t7_1 t7_2 t7_3 ([] : List Tm) (0 : Int)
def o135_2 (s135 : Tm → (List Int) → Int → Option Tm) (n : Nat) (k1 : (List Int) → Int → Tm → Int → Int → Int → Int → Int → Int → Int → Int → Option Tm) (t1 : List Int) (t2 : Int) (t3 : Tm) (t6_0 : Int) (t6_1 : Int) (t6_2 : Int) (t6_3 : Int) (t7_0 : Int) (t7_1 : Int) (t7_2 : Int) (t7_3 : Int) (t27 : Bool) : Option Tm :=
  if t27 then
    ckI (t3.i - t2) <|
    atI t1 (t3.i - t2) fun x1 =>
    ckI (x1 + t2) <|
    k1 t1 t2 t3 t6_0 t6_1 t6_2 t6_3 t7_0 (x1 + t2) t7_2 t7_3
  else
    k1 t1 t2 t3 t6_0 t6_1 t6_2 t6_3 t7_0 t7_1 t7_2 t7_3
def o135_3 (s135 : Tm → (List Int) → Int → Option Tm) (n : Nat) (k3 : (List Int) → Int → Tm → Int → Int → Int → Int → Int → Int → Int → Int → (List Tm) → Int → Option Tm) (t1 : List Int) (t2 : Int) (t3 : Tm) (t6_0 : Int) (t6_1 : Int) (t6_2 : Int) (t6_3 : Int) (t7_0 : Int) (t7_1 : Int) (t7_2 : Int) (t7_3 : Int) (t8 : List Tm) (t9 : Int) : Option Tm :=
  if (decide (t9 < (t3.kids.length : Int))) then
    atI t3.kids t9 fun x2 =>
    (f60 t3.kind t9).bind fun x3 =>
    ckI (t2 + x3) <|
    (s135 x2 t1 (t2 + x3)).bind fun x4 =>
    ckB (decide ((t8.length + [(Tm.mk x4.kind x4.i x4.j x4.n x4.kids)].length) * 56 ≤ 140737488355328) && decide (t8.length + [(Tm.mk x4.kind x4.i x4.j x4.n x4.kids)].length ≤ 9223372036854775807)) <|
    ckI (t9 + (1 : Int)) <|
    k3 t1 t2 t3 t6_0 t6_1 t6_2 t6_3 t7_0 t7_1 t7_2 t7_3 (t8 ++ [(Tm.mk x4.kind x4.i x4.j x4.n x4.kids)]) (t9 + (1 : Int))
  else
    some (Tm.mk t7_0 t7_1 t7_2 t7_3 t8)
def c135_1 (s135 : Tm → (List Int) → Int → Option Tm) (n : Nat) (k3 : (List Int) → Int → Tm → Int → Int → Int → Int → Int → Int → Int → Int → (List Tm) → Int → Option Tm) (t1 : List Int) (t2 : Int) (t3 : Tm) (t6_0 : Int) (t6_1 : Int) (t6_2 : Int) (t6_3 : Int) (t7_0 : Int) (t7_1 : Int) (t7_2 : Int) (t7_3 : Int) : Option Tm :=
  o135_1 s135 n k3 t1 t2 t3 t6_0 t6_1 t6_2 t6_3 t7_0 t7_1 t7_2 t7_3
def c135_2 (s135 : Tm → (List Int) → Int → Option Tm) (n : Nat) (k3 : (List Int) → Int → Tm → Int → Int → Int → Int → Int → Int → Int → Int → (List Tm) → Int → Option Tm) (t1 : List Int) (t2 : Int) (t3 : Tm) (t6_0 : Int) (t6_1 : Int) (t6_2 : Int) (t6_3 : Int) (t7_0 : Int) (t7_1 : Int) (t7_2 : Int) (t7_3 : Int) (t27 : Bool) : Option Tm :=
  o135_2 s135 n (c135_1 s135 n k3) t1 t2 t3 t6_0 t6_1 t6_2 t6_3 t7_0 t7_1 t7_2 t7_3 t27
def l135_3 (s135 : Tm → (List Int) → Int → Option Tm) (n : Nat) : Nat → (List Int) → Int → Tm → Int → Int → Int → Int → Int → Int → Int → Int → (List Tm) → Int → Option Tm
  | 0, _, _, _, _, _, _, _, _, _, _, _, _, _ => none
  | m + 1, t1, t2, t3, t6_0, t6_1, t6_2, t6_3, t7_0, t7_1, t7_2, t7_3, t8, t9 => o135_3 s135 n (l135_3 s135 n m) t1 t2 t3 t6_0 t6_1 t6_2 t6_3 t7_0 t7_1 t7_2 t7_3 t8 t9
def f135 : Nat → Tm → (List Int) → Int → Option Tm
  | 0, _, _, _ => none
  | n + 1, a0, a1, a2 => o135_0 (f135 n) n (c135_2 (f135 n) n (l135_3 (f135 n) n n)) a0 a1 a2
def an135 : An := (.n none [] 0 .z (.n none [] 0 .z (.n (some 1) [(1, .one (.d .int false)), (2, .one .c), (3, .ps 0 .tm false), (6, .p 1 [.c, .c, .c, .c, .k]), (7, .p 2 [.c, .c, .c, .c, .k])] 3 (.n (some 2) [(1, .one (.d .int false)), (2, .one .c), (3, .ps 0 .tm false), (6, .p 1 [.c, .c, .c, .c, .k]), (7, .p 2 [.c, .c, .c, .c, .k]), (27, .one .c)] 3 .z .z) (.n none [] 0 .z (.n none [] 0 (.n none [] 0 .z (.n none [] 0 (.n (some 3) [(1, .one (.d .int false)), (2, .one .c), (3, .ps 0 .tm false), (6, .p 1 [.c, .c, .c, .c, .k]), (7, .p 2 [.c, .c, .c, .c, .k]), (8, .one (.r 3 45 .tm true)), (9, .one .c)] 4 .z .z) .z)) .z)))))
def F135 : Fn := { f := 135, a := an135, vars := [.cell 6 45], ps := [.st .tm, .sl .int, .sc .int], rs := [.st .tm], own := false, fr := true, nt := 64, D := 5, loops := [3] }
def cs135 (s135 : Tm → (List Int) → Int → Option Tm) (n : Nat) : List Cal := [⟨60, [.sc .int, .sc .int], [.sc .int], true, fun a => f60 a.1 a.2.1⟩, ⟨135, [.st .tm, .sl .int, .sc .int], [.st .tm], true, fun a => s135 a.1 a.2.1 a.2.2.1⟩]
def st135_1 (t1 : List Int) (t2 : Int) (t3 : Tm) (t6_0 : Int) (t6_1 : Int) (t6_2 : Int) (t6_3 : Int) (t7_0 : Int) (t7_1 : Int) (t7_2 : Int) (t7_3 : Int) : SS := ⟨[(1, .v (.one (.c (.sl .int t1) false))), (2, .v (.one (.c (.int t2) true))), (3, .v (.one (.ptr 0 0))), (6, .v (.one (.ptr 1 0))), (7, .v (.one (.ptr 2 0)))], [(0, some (.bst .tm t3 false)), (1, some (.box [.c (.int t6_0) true, .c (.int t6_1) true, .c (.int t6_2) true, .c (.int t6_3) true, .nils])), (2, some (.box [.c (.int t7_0) true, .c (.int t7_1) true, .c (.int t7_2) true, .c (.int t7_3) true, .nils]))], 3⟩
def st135_2 (t1 : List Int) (t2 : Int) (t3 : Tm) (t6_0 : Int) (t6_1 : Int) (t6_2 : Int) (t6_3 : Int) (t7_0 : Int) (t7_1 : Int) (t7_2 : Int) (t7_3 : Int) (t27 : Bool) : SS := ⟨[(1, .v (.one (.c (.sl .int t1) false))), (2, .v (.one (.c (.int t2) true))), (3, .v (.one (.ptr 0 0))), (6, .v (.one (.ptr 1 0))), (7, .v (.one (.ptr 2 0))), (27, .v (.one (.c (.bool t27) true)))], [(0, some (.bst .tm t3 false)), (1, some (.box [.c (.int t6_0) true, .c (.int t6_1) true, .c (.int t6_2) true, .c (.int t6_3) true, .nils])), (2, some (.box [.c (.int t7_0) true, .c (.int t7_1) true, .c (.int t7_2) true, .c (.int t7_3) true, .nils]))], 3⟩
def st135_3 (t1 : List Int) (t2 : Int) (t3 : Tm) (t6_0 : Int) (t6_1 : Int) (t6_2 : Int) (t6_3 : Int) (t7_0 : Int) (t7_1 : Int) (t7_2 : Int) (t7_3 : Int) (t8 : List Tm) (t9 : Int) : SS := ⟨[(1, .v (.one (.c (.sl .int t1) false))), (2, .v (.one (.c (.int t2) true))), (3, .v (.one (.ptr 0 0))), (6, .v (.one (.ptr 1 0))), (7, .v (.one (.ptr 2 0))), (8, .v (.one (.arr 3))), (9, .v (.one (.c (.int t9) true)))], [(0, some (.bst .tm t3 false)), (1, some (.box [.c (.int t6_0) true, .c (.int t6_1) true, .c (.int t6_2) true, .c (.int t6_3) true, .nils])), (2, some (.box [.c (.int t7_0) true, .c (.int t7_1) true, .c (.int t7_2) true, .c (.int t7_3) true, .nils])), (3, some (.row 45 .tm t8 true))], 4⟩
theorem p135_0 (s135 : Tm → (List Int) → Int → Option Tm) (n : Nat) (lab : Nat → SS → Option (RT.den F135.rs)) (x : PTs.den F135.ps) : F135.body (bodyOf Try.f135) tabR tyR true (cs135 s135 n) lab x = o135_0 s135 n (fun t1 t2 t3 t6_0 t6_1 t6_2 t6_3 t7_0 t7_1 t7_2 t7_3 t27 => lab 2 (st135_2 t1 t2 t3 t6_0 t6_1 t6_2 t6_3 t7_0 t7_1 t7_2 t7_3 t27)) x.1 x.2.1 x.2.2.1 := by kernel_rfl
theorem p135_1 (s135 : Tm → (List Int) → Int → Option Tm) (n : Nat) (lab : Nat → SS → Option (RT.den F135.rs)) (t1 : List Int) (t2 : Int) (t3 : Tm) (t6_0 : Int) (t6_1 : Int) (t6_2 : Int) (t6_3 : Int) (t7_0 : Int) (t7_1 : Int) (t7_2 : Int) (t7_3 : Int) : F135.at (bodyOf Try.f135) tabR tyR true (cs135 s135 n) lab 1 (st135_1 t1 t2 t3 t6_0 t6_1 t6_2 t6_3 t7_0 t7_1 t7_2 t7_3) = o135_1 s135 n (fun t1 t2 t3 t6_0 t6_1 t6_2 t6_3 t7_0 t7_1 t7_2 t7_3 t8 t9 => lab 3 (st135_3 t1 t2 t3 t6_0 t6_1 t6_2 t6_3 t7_0 t7_1 t7_2 t7_3 t8 t9)) t1 t2 t3 t6_0 t6_1 t6_2 t6_3 t7_0 t7_1 t7_2 t7_3 := by kernel_rfl
theorem p135_2 (s135 : Tm → (List Int) → Int → Option Tm) (n : Nat) (lab : Nat → SS → Option (RT.den F135.rs)) (t1 : List Int) (t2 : Int) (t3 : Tm) (t6_0 : Int) (t6_1 : Int) (t6_2 : Int) (t6_3 : Int) (t7_0 : Int) (t7_1 : Int) (t7_2 : Int) (t7_3 : Int) (t27 : Bool) : F135.at (bodyOf Try.f135) tabR tyR true (cs135 s135 n) lab 2 (st135_2 t1 t2 t3 t6_0 t6_1 t6_2 t6_3 t7_0 t7_1 t7_2 t7_3 t27) = o135_2 s135 n (fun t1 t2 t3 t6_0 t6_1 t6_2 t6_3 t7_0 t7_1 t7_2 t7_3 => lab 1 (st135_1 t1 t2 t3 t6_0 t6_1 t6_2 t6_3 t7_0 t7_1 t7_2 t7_3)) t1 t2 t3 t6_0 t6_1 t6_2 t6_3 t7_0 t7_1 t7_2 t7_3 t27 := by kernel_rfl
theorem p135_3 (s135 : Tm → (List Int) → Int → Option Tm) (n : Nat) (lab : Nat → SS → Option (RT.den F135.rs)) (t1 : List Int) (t2 : Int) (t3 : Tm) (t6_0 : Int) (t6_1 : Int) (t6_2 : Int) (t6_3 : Int) (t7_0 : Int) (t7_1 : Int) (t7_2 : Int) (t7_3 : Int) (t8 : List Tm) (t9 : Int) : F135.at (bodyOf Try.f135) tabR tyR true (cs135 s135 n) lab 3 (st135_3 t1 t2 t3 t6_0 t6_1 t6_2 t6_3 t7_0 t7_1 t7_2 t7_3 t8 t9) = o135_3 s135 n (fun t1 t2 t3 t6_0 t6_1 t6_2 t6_3 t7_0 t7_1 t7_2 t7_3 t8 t9 => lab 3 (st135_3 t1 t2 t3 t6_0 t6_1 t6_2 t6_3 t7_0 t7_1 t7_2 t7_3 t8 t9)) t1 t2 t3 t6_0 t6_1 t6_2 t6_3 t7_0 t7_1 t7_2 t7_3 t8 t9 := by kernel_rfl
theorem n135_1 (s135 : Tm → (List Int) → Int → Option Tm) (n : Nat) (rec : Nat → SS → Option (RT.den F135.rs)) (k3 : (List Int) → Int → Tm → Int → Int → Int → Int → Int → Int → Int → Int → (List Tm) → Int → Option Tm) (h3 : ∀ t1 t2 t3 t6_0 t6_1 t6_2 t6_3 t7_0 t7_1 t7_2 t7_3 t8 t9, rec 3 (st135_3 t1 t2 t3 t6_0 t6_1 t6_2 t6_3 t7_0 t7_1 t7_2 t7_3 t8 t9) = k3 t1 t2 t3 t6_0 t6_1 t6_2 t6_3 t7_0 t7_1 t7_2 t7_3 t8 t9) (d : Nat) (t1 : List Int) (t2 : Int) (t3 : Tm) (t6_0 : Int) (t6_1 : Int) (t6_2 : Int) (t6_3 : Int) (t7_0 : Int) (t7_1 : Int) (t7_2 : Int) (t7_3 : Int) : F135.labD (bodyOf Try.f135) tabR tyR true (cs135 s135 n) rec (d + 1) 1 (st135_1 t1 t2 t3 t6_0 t6_1 t6_2 t6_3 t7_0 t7_1 t7_2 t7_3) = c135_1 s135 n k3 t1 t2 t3 t6_0 t6_1 t6_2 t6_3 t7_0 t7_1 t7_2 t7_3 := by
  have e3 : ∀ t1 t2 t3 t6_0 t6_1 t6_2 t6_3 t7_0 t7_1 t7_2 t7_3 t8 t9, F135.labX (bodyOf Try.f135) tabR tyR true (cs135 s135 n) rec d 3 (st135_3 t1 t2 t3 t6_0 t6_1 t6_2 t6_3 t7_0 t7_1 t7_2 t7_3 t8 t9) = k3 t1 t2 t3 t6_0 t6_1 t6_2 t6_3 t7_0 t7_1 t7_2 t7_3 t8 t9 := fun t1 t2 t3 t6_0 t6_1 t6_2 t6_3 t7_0 t7_1 t7_2 t7_3 t8 t9 => (Fn.labX_loop _ _ _ _ _ _ _ _ _ _ (by kernel_rfl)).trans (h3 t1 t2 t3 t6_0 t6_1 t6_2 t6_3 t7_0 t7_1 t7_2 t7_3 t8 t9)
  show F135.labD (bodyOf Try.f135) tabR tyR true (cs135 s135 n) rec (d + 1) 1 _ = _
  rw [Fn.labD_succ, p135_1]
  simp only [e3]
  rfl
theorem n135_2 (s135 : Tm → (List Int) → Int → Option Tm) (n : Nat) (rec : Nat → SS → Option (RT.den F135.rs)) (k3 : (List Int) → Int → Tm → Int → Int → Int → Int → Int → Int → Int → Int → (List Tm) → Int → Option Tm) (h3 : ∀ t1 t2 t3 t6_0 t6_1 t6_2 t6_3 t7_0 t7_1 t7_2 t7_3 t8 t9, rec 3 (st135_3 t1 t2 t3 t6_0 t6_1 t6_2 t6_3 t7_0 t7_1 t7_2 t7_3 t8 t9) = k3 t1 t2 t3 t6_0 t6_1 t6_2 t6_3 t7_0 t7_1 t7_2 t7_3 t8 t9) (d : Nat) (t1 : List Int) (t2 : Int) (t3 : Tm) (t6_0 : Int) (t6_1 : Int) (t6_2 : Int) (t6_3 : Int) (t7_0 : Int) (t7_1 : Int) (t7_2 : Int) (t7_3 : Int) (t27 : Bool) : F135.labD (bodyOf Try.f135) tabR tyR true (cs135 s135 n) rec (d + 2) 2 (st135_2 t1 t2 t3 t6_0 t6_1 t6_2 t6_3 t7_0 t7_1 t7_2 t7_3 t27) = c135_2 s135 n k3 t1 t2 t3 t6_0 t6_1 t6_2 t6_3 t7_0 t7_1 t7_2 t7_3 t27 := by
  have e1 : ∀ t1 t2 t3 t6_0 t6_1 t6_2 t6_3 t7_0 t7_1 t7_2 t7_3, F135.labX (bodyOf Try.f135) tabR tyR true (cs135 s135 n) rec (d + 1) 1 (st135_1 t1 t2 t3 t6_0 t6_1 t6_2 t6_3 t7_0 t7_1 t7_2 t7_3) = c135_1 s135 n k3 t1 t2 t3 t6_0 t6_1 t6_2 t6_3 t7_0 t7_1 t7_2 t7_3 := fun t1 t2 t3 t6_0 t6_1 t6_2 t6_3 t7_0 t7_1 t7_2 t7_3 => (Fn.labX_step _ _ _ _ _ _ _ _ _ _ (by kernel_rfl)).trans (n135_1 s135 n rec k3 h3 d t1 t2 t3 t6_0 t6_1 t6_2 t6_3 t7_0 t7_1 t7_2 t7_3)
  show F135.labD (bodyOf Try.f135) tabR tyR true (cs135 s135 n) rec ((d + 1) + 1) 2 _ = _
  rw [Fn.labD_succ, p135_2]
  simp only [e1]
  rfl
theorem m135_3 (s135 : Tm → (List Int) → Int → Option Tm) (n : Nat) : ∀ m : Nat, (∀ t1 t2 t3 t6_0 t6_1 t6_2 t6_3 t7_0 t7_1 t7_2 t7_3 t8 t9, F135.labM (bodyOf Try.f135) tabR tyR true (cs135 s135 n) m 3 (st135_3 t1 t2 t3 t6_0 t6_1 t6_2 t6_3 t7_0 t7_1 t7_2 t7_3 t8 t9) = l135_3 s135 n m t1 t2 t3 t6_0 t6_1 t6_2 t6_3 t7_0 t7_1 t7_2 t7_3 t8 t9) := by
  intro m
  induction m with
  | zero => exact fun _ _ _ _ _ _ _ _ _ _ _ _ _ => rfl
  | succ m ih =>
    intro t1 t2 t3 t6_0 t6_1 t6_2 t6_3 t7_0 t7_1 t7_2 t7_3 t8 t9
    have e3 : ∀ t1 t2 t3 t6_0 t6_1 t6_2 t6_3 t7_0 t7_1 t7_2 t7_3 t8 t9, F135.labX (bodyOf Try.f135) tabR tyR true (cs135 s135 n) (F135.labM (bodyOf Try.f135) tabR tyR true (cs135 s135 n) m) 4 3 (st135_3 t1 t2 t3 t6_0 t6_1 t6_2 t6_3 t7_0 t7_1 t7_2 t7_3 t8 t9) = (l135_3 s135 n m) t1 t2 t3 t6_0 t6_1 t6_2 t6_3 t7_0 t7_1 t7_2 t7_3 t8 t9 := fun t1 t2 t3 t6_0 t6_1 t6_2 t6_3 t7_0 t7_1 t7_2 t7_3 t8 t9 => (Fn.labX_loop _ _ _ _ _ _ _ _ _ _ (by kernel_rfl)).trans (ih t1 t2 t3 t6_0 t6_1 t6_2 t6_3 t7_0 t7_1 t7_2 t7_3 t8 t9)
    rw [Fn.labM_succ]
    show F135.labD (bodyOf Try.f135) tabR tyR true (cs135 s135 n) (F135.labM (bodyOf Try.f135) tabR tyR true (cs135 s135 n) m) (4 + 1) 3 _ = _
    rw [Fn.labD_succ, p135_3]
    simp only [e3]
    rfl
theorem w135 (s135 : Tm → (List Int) → Int → Option Tm) (n : Nat) (x : PTs.den F135.ps) : F135.body (bodyOf Try.f135) tabR tyR true (cs135 s135 n) (F135.labX (bodyOf Try.f135) tabR tyR true (cs135 s135 n) (F135.labM (bodyOf Try.f135) tabR tyR true (cs135 s135 n) n) F135.D) x = o135_0 s135 n (c135_2 s135 n (l135_3 s135 n n)) x.1 x.2.1 x.2.2.1 := by
  have e2 : ∀ t1 t2 t3 t6_0 t6_1 t6_2 t6_3 t7_0 t7_1 t7_2 t7_3 t27, F135.labX (bodyOf Try.f135) tabR tyR true (cs135 s135 n) (F135.labM (bodyOf Try.f135) tabR tyR true (cs135 s135 n) n) 5 2 (st135_2 t1 t2 t3 t6_0 t6_1 t6_2 t6_3 t7_0 t7_1 t7_2 t7_3 t27) = c135_2 s135 n (l135_3 s135 n n) t1 t2 t3 t6_0 t6_1 t6_2 t6_3 t7_0 t7_1 t7_2 t7_3 t27 := fun t1 t2 t3 t6_0 t6_1 t6_2 t6_3 t7_0 t7_1 t7_2 t7_3 t27 => (Fn.labX_step _ _ _ _ _ _ _ _ _ _ (by kernel_rfl)).trans (n135_2 s135 n (F135.labM (bodyOf Try.f135) tabR tyR true (cs135 s135 n) n) (l135_3 s135 n n) (m135_3 s135 n n) 3 t1 t2 t3 t6_0 t6_1 t6_2 t6_3 t7_0 t7_1 t7_2 t7_3 t27)
  show F135.body (bodyOf Try.f135) tabR tyR true (cs135 s135 n) (F135.labX (bodyOf Try.f135) tabR tyR true (cs135 s135 n) (F135.labM (bodyOf Try.f135) tabR tyR true (cs135 s135 n) n) 5) x = _
  rw [p135_0]
  simp only [e2]
  try rfl
theorem call135 : Callable Try.prog 135 := callable_of Try.func135 (by kernel_rfl) (by kernel_rfl)
theorem okr135 : ∀ n : Nat, Cal.Ok Try.prog ⟨135, F135.ps, F135.rs, F135.fr, fun a => f135 n a.1 a.2.1 a.2.2.1⟩
  | 0 => ⟨by kernel_rfl, fun a r h => by cases h⟩
  | n + 1 => cal_of_fn F135 (code := bodyOf Try.f135) Try.func135 (by kernel_rfl) (by kernel_rfl) call135 htabR (cs := cs135 (f135 n) n) (fun c hc => by
      simp only [cs135, List.mem_cons, List.not_mem_nil, or_false] at hc
      rcases hc with rfl | rfl
      · exact ok60
      · exact (okr135 n)) (fun _ => mixed) (by kernel_rfl) (by kernel_rfl) (by decide) (fun x => ⟨n, w135 (f135 n) n x⟩)
theorem ok135 (n : Nat) : Cal.Ok Try.prog ⟨135, F135.ps, F135.rs, F135.fr, fun a => f135 n a.1 a.2.1 a.2.2.1⟩ := (okr135 n)
-- tranship/transhipref04.Rename
def o95_0 (n : Nat) (k1 : (List Int) → Tm → Int → Int → Int → Int → Option (Tm × Bool)) (a0 : Tm) (a1 : List Int) : Option (Tm × Bool) :=
  (f81 n a0).bind fun x1 =>
  if (!x1) then
    some ((Tm.mk (0 : Int) (0 : Int) (0 : Int) (0 : Int) ([] : List Tm)), false)
  else
    (f127 n a0).bind fun x2 =>
    if (decide ((a1.length : Int) < x2)) then
      some ((Tm.mk (0 : Int) (0 : Int) (0 : Int) (0 : Int) ([] : List Tm)), false)
    else
      k1 a1 a0 (0 : Int) (0 : Int) (0 : Int) (0 : Int)
def o95_1 (n : Nat) (k2 : (List Int) → Tm → Int → Int → Int → Int → Int → Option (Tm × Bool)) (t1 : List Int) (t2 : Tm) (t4_0 : Int) (t4_1 : Int) (t4_2 : Int) (t4_3 : Int) : Option (Tm × Bool) :=
  k2 t1 t2 t4_0 t4_1 t4_2 t4_3 (0 : Int)
def o95_2 (n : Nat) (k2 : (List Int) → Tm → Int → Int → Int → Int → Int → Option (Tm × Bool)) (t1 : List Int) (t2 : Tm) (t4_0 : Int) (t4_1 : Int) (t4_2 : Int) (t4_3 : Int) (t6 : Int) : Option (Tm × Bool) :=
  if (decide (t6 < (t1.length : Int))) then
    atI t1 t6 fun x3 =>
    if (decide (x3 < (0 : Int))) then
      some ((Tm.mk (0 : Int) (0 : Int) (0 : Int) (0 : Int) ([] : List Tm)), false)
    else
      atI t1 t6 fun x4 =>
      if (decide ((1073741824 : Int) < x4)) then
        some ((Tm.mk (0 : Int) (0 : Int) (0 : Int) (0 : Int) ([] : List Tm)), false)
      else
        ckI (t6 + (1 : Int)) <|
        k2 t1 t2 t4_0 t4_1 t4_2 t4_3 (t6 + (1 : Int))
  else
    (f135 n t2 t1 (0 : Int)).bind fun x5 =>
    some (x5, true)
def c95_1 (n : Nat) (k2 : (List Int) → Tm → Int → Int → Int → Int → Int → Option (Tm × Bool)) (t1 : List Int) (t2 : Tm) (t4_0 : Int) (t4_1 : Int) (t4_2 : Int) (t4_3 : Int) : Option (Tm × Bool) :=
  o95_1 n k2 t1 t2 t4_0 t4_1 t4_2 t4_3
def l95_2 (n : Nat) : Nat → (List Int) → Tm → Int → Int → Int → Int → Int → Option (Tm × Bool)
  | 0, _, _, _, _, _, _, _ => none
  | m + 1, t1, t2, t4_0, t4_1, t4_2, t4_3, t6 => o95_2 n (l95_2 n m) t1 t2 t4_0 t4_1 t4_2 t4_3 t6
def f95 (n : Nat) (a0 : Tm) (a1 : List Int) : Option (Tm × Bool) := o95_0 n (c95_1 n (l95_2 n n)) a0 a1
def an95 : An := (.n none [] 0 .z (.n (some 1) [(1, .one (.d .int false)), (2, .ps 0 .tm false), (4, .p 1 [.c, .c, .c, .c, .k])] 2 .z (.n none [] 0 (.n none [] 0 .z (.n none [] 0 (.n (some 2) [(1, .one (.d .int false)), (2, .ps 0 .tm false), (4, .p 1 [.c, .c, .c, .c, .k]), (6, .one .c)] 2 .z .z) .z)) .z)))
def F95 : Fn := { f := 95, a := an95, vars := [.cell 4 45, .tmp 5], ps := [.st .tm, .sl .int], rs := [.st .tm, .sc .bool], own := false, fr := true, nt := 40, D := 4, loops := [2] }
def cs95 (n : Nat) : List Cal := [⟨81, [.st .tm], [.sc .bool], true, fun a => f81 n a.1⟩, ⟨127, [.st .tm], [.sc .int], true, fun a => f127 n a.1⟩, ⟨135, [.st .tm, .sl .int, .sc .int], [.st .tm], true, fun a => f135 n a.1 a.2.1 a.2.2.1⟩]
def st95_1 (t1 : List Int) (t2 : Tm) (t4_0 : Int) (t4_1 : Int) (t4_2 : Int) (t4_3 : Int) : SS := ⟨[(1, .v (.one (.c (.sl .int t1) false))), (2, .v (.one (.ptr 0 0))), (4, .v (.one (.ptr 1 0)))], [(0, some (.bst .tm t2 false)), (1, some (.box [.c (.int t4_0) true, .c (.int t4_1) true, .c (.int t4_2) true, .c (.int t4_3) true, .nils]))], 2⟩
def st95_2 (t1 : List Int) (t2 : Tm) (t4_0 : Int) (t4_1 : Int) (t4_2 : Int) (t4_3 : Int) (t6 : Int) : SS := ⟨[(1, .v (.one (.c (.sl .int t1) false))), (2, .v (.one (.ptr 0 0))), (4, .v (.one (.ptr 1 0))), (6, .v (.one (.c (.int t6) true)))], [(0, some (.bst .tm t2 false)), (1, some (.box [.c (.int t4_0) true, .c (.int t4_1) true, .c (.int t4_2) true, .c (.int t4_3) true, .nils]))], 2⟩
theorem p95_0 (n : Nat) (lab : Nat → SS → Option (RT.den F95.rs)) (x : PTs.den F95.ps) : F95.body (bodyOf Try.f95) tabR tyR true (cs95 n) lab x = o95_0 n (fun t1 t2 t4_0 t4_1 t4_2 t4_3 => lab 1 (st95_1 t1 t2 t4_0 t4_1 t4_2 t4_3)) x.1 x.2.1 := by kernel_rfl
theorem p95_1 (n : Nat) (lab : Nat → SS → Option (RT.den F95.rs)) (t1 : List Int) (t2 : Tm) (t4_0 : Int) (t4_1 : Int) (t4_2 : Int) (t4_3 : Int) : F95.at (bodyOf Try.f95) tabR tyR true (cs95 n) lab 1 (st95_1 t1 t2 t4_0 t4_1 t4_2 t4_3) = o95_1 n (fun t1 t2 t4_0 t4_1 t4_2 t4_3 t6 => lab 2 (st95_2 t1 t2 t4_0 t4_1 t4_2 t4_3 t6)) t1 t2 t4_0 t4_1 t4_2 t4_3 := by kernel_rfl
theorem p95_2 (n : Nat) (lab : Nat → SS → Option (RT.den F95.rs)) (t1 : List Int) (t2 : Tm) (t4_0 : Int) (t4_1 : Int) (t4_2 : Int) (t4_3 : Int) (t6 : Int) : F95.at (bodyOf Try.f95) tabR tyR true (cs95 n) lab 2 (st95_2 t1 t2 t4_0 t4_1 t4_2 t4_3 t6) = o95_2 n (fun t1 t2 t4_0 t4_1 t4_2 t4_3 t6 => lab 2 (st95_2 t1 t2 t4_0 t4_1 t4_2 t4_3 t6)) t1 t2 t4_0 t4_1 t4_2 t4_3 t6 := by kernel_rfl
theorem n95_1 (n : Nat) (rec : Nat → SS → Option (RT.den F95.rs)) (k2 : (List Int) → Tm → Int → Int → Int → Int → Int → Option (Tm × Bool)) (h2 : ∀ t1 t2 t4_0 t4_1 t4_2 t4_3 t6, rec 2 (st95_2 t1 t2 t4_0 t4_1 t4_2 t4_3 t6) = k2 t1 t2 t4_0 t4_1 t4_2 t4_3 t6) (d : Nat) (t1 : List Int) (t2 : Tm) (t4_0 : Int) (t4_1 : Int) (t4_2 : Int) (t4_3 : Int) : F95.labD (bodyOf Try.f95) tabR tyR true (cs95 n) rec (d + 1) 1 (st95_1 t1 t2 t4_0 t4_1 t4_2 t4_3) = c95_1 n k2 t1 t2 t4_0 t4_1 t4_2 t4_3 := by
  have e2 : ∀ t1 t2 t4_0 t4_1 t4_2 t4_3 t6, F95.labX (bodyOf Try.f95) tabR tyR true (cs95 n) rec d 2 (st95_2 t1 t2 t4_0 t4_1 t4_2 t4_3 t6) = k2 t1 t2 t4_0 t4_1 t4_2 t4_3 t6 := fun t1 t2 t4_0 t4_1 t4_2 t4_3 t6 => (Fn.labX_loop _ _ _ _ _ _ _ _ _ _ (by kernel_rfl)).trans (h2 t1 t2 t4_0 t4_1 t4_2 t4_3 t6)
  show F95.labD (bodyOf Try.f95) tabR tyR true (cs95 n) rec (d + 1) 1 _ = _
  rw [Fn.labD_succ, p95_1]
  simp only [e2]
  rfl
theorem m95_2 (n : Nat) : ∀ m : Nat, (∀ t1 t2 t4_0 t4_1 t4_2 t4_3 t6, F95.labM (bodyOf Try.f95) tabR tyR true (cs95 n) m 2 (st95_2 t1 t2 t4_0 t4_1 t4_2 t4_3 t6) = l95_2 n m t1 t2 t4_0 t4_1 t4_2 t4_3 t6) := by
  intro m
  induction m with
  | zero => exact fun _ _ _ _ _ _ _ => rfl
  | succ m ih =>
    intro t1 t2 t4_0 t4_1 t4_2 t4_3 t6
    have e2 : ∀ t1 t2 t4_0 t4_1 t4_2 t4_3 t6, F95.labX (bodyOf Try.f95) tabR tyR true (cs95 n) (F95.labM (bodyOf Try.f95) tabR tyR true (cs95 n) m) 3 2 (st95_2 t1 t2 t4_0 t4_1 t4_2 t4_3 t6) = (l95_2 n m) t1 t2 t4_0 t4_1 t4_2 t4_3 t6 := fun t1 t2 t4_0 t4_1 t4_2 t4_3 t6 => (Fn.labX_loop _ _ _ _ _ _ _ _ _ _ (by kernel_rfl)).trans (ih t1 t2 t4_0 t4_1 t4_2 t4_3 t6)
    rw [Fn.labM_succ]
    show F95.labD (bodyOf Try.f95) tabR tyR true (cs95 n) (F95.labM (bodyOf Try.f95) tabR tyR true (cs95 n) m) (3 + 1) 2 _ = _
    rw [Fn.labD_succ, p95_2]
    simp only [e2]
    rfl
theorem w95 (n : Nat) (x : PTs.den F95.ps) : F95.body (bodyOf Try.f95) tabR tyR true (cs95 n) (F95.labX (bodyOf Try.f95) tabR tyR true (cs95 n) (F95.labM (bodyOf Try.f95) tabR tyR true (cs95 n) n) F95.D) x = o95_0 n (c95_1 n (l95_2 n n)) x.1 x.2.1 := by
  have e1 : ∀ t1 t2 t4_0 t4_1 t4_2 t4_3, F95.labX (bodyOf Try.f95) tabR tyR true (cs95 n) (F95.labM (bodyOf Try.f95) tabR tyR true (cs95 n) n) 4 1 (st95_1 t1 t2 t4_0 t4_1 t4_2 t4_3) = c95_1 n (l95_2 n n) t1 t2 t4_0 t4_1 t4_2 t4_3 := fun t1 t2 t4_0 t4_1 t4_2 t4_3 => (Fn.labX_step _ _ _ _ _ _ _ _ _ _ (by kernel_rfl)).trans (n95_1 n (F95.labM (bodyOf Try.f95) tabR tyR true (cs95 n) n) (l95_2 n n) (m95_2 n n) 3 t1 t2 t4_0 t4_1 t4_2 t4_3)
  show F95.body (bodyOf Try.f95) tabR tyR true (cs95 n) (F95.labX (bodyOf Try.f95) tabR tyR true (cs95 n) (F95.labM (bodyOf Try.f95) tabR tyR true (cs95 n) n) 4) x = _
  rw [p95_0]
  simp only [e1]
  try rfl
theorem call95 : Callable Try.prog 95 := callable_of Try.func95 (by kernel_rfl) (by kernel_rfl)
theorem ok95 (n : Nat) : Cal.Ok Try.prog ⟨95, F95.ps, F95.rs, F95.fr, fun a => f95 n a.1 a.2.1⟩ :=
  cal_of_fn F95 (code := bodyOf Try.f95) Try.func95 (by kernel_rfl) (by kernel_rfl) call95 htabR (cs := cs95 n) (fun c hc => by
      simp only [cs95, List.mem_cons, List.not_mem_nil, or_false] at hc
      rcases hc with rfl | rfl | rfl
      · exact ok81 n
      · exact ok127 n
      · exact ok135 n) (fun _ => mixed) (by kernel_rfl) (by kernel_rfl) (by decide) (fun x => ⟨n, w95 n x⟩)
-- tranship/transhipref04.may
def o136_0 (n : Nat) (a0 : Tm) (a1 : Tm) : Option Bool :=
  (f81 n a1).bind fun x1 =>
  if x1 then
    if (decide (a0.kind = (1 : Int))) then
      some true
    else
      if (decide (a0.kind = (2 : Int))) then
        some true
      else
        (f77 n a0).bind fun x2 =>
        if x2 then
          some true
        else
          (f70 n a1).bind fun x3 =>
          some x3
  else
    some false
def f136 (n : Nat) (a0 : Tm) (a1 : Tm) : Option Bool := o136_0 n a0 a1
def an136 : An := .z
def F136 : Fn := { f := 136, a := an136, vars := [.tmp 4], ps := [.st .tm, .st .tm], rs := [.sc .bool], own := false, fr := true, nt := 25, D := 2, loops := [] }
def cs136 (n : Nat) : List Cal := [⟨70, [.st .tm], [.sc .bool], true, fun a => f70 n a.1⟩, ⟨77, [.st .tm], [.sc .bool], true, fun a => f77 n a.1⟩, ⟨81, [.st .tm], [.sc .bool], true, fun a => f81 n a.1⟩]
theorem p136_0 (n : Nat) (lab : Nat → SS → Option (RT.den F136.rs)) (x : PTs.den F136.ps) : F136.body (bodyOf Try.f136) tabR tyR true (cs136 n) lab x = o136_0 n x.1 x.2.1 := by kernel_rfl
theorem w136 (n : Nat) (x : PTs.den F136.ps) : F136.body (bodyOf Try.f136) tabR tyR true (cs136 n) (F136.labX (bodyOf Try.f136) tabR tyR true (cs136 n) (F136.labM (bodyOf Try.f136) tabR tyR true (cs136 n) 0) F136.D) x = o136_0 n x.1 x.2.1 := by
  show F136.body (bodyOf Try.f136) tabR tyR true (cs136 n) (F136.labX (bodyOf Try.f136) tabR tyR true (cs136 n) (F136.labM (bodyOf Try.f136) tabR tyR true (cs136 n) 0) 2) x = _
  rw [p136_0]
theorem call136 : Callable Try.prog 136 := callable_of Try.func136 (by kernel_rfl) (by kernel_rfl)
theorem ok136 (n : Nat) : Cal.Ok Try.prog ⟨136, F136.ps, F136.rs, F136.fr, fun a => f136 n a.1 a.2.1⟩ :=
  cal_of_fn F136 (code := bodyOf Try.f136) Try.func136 (by kernel_rfl) (by kernel_rfl) call136 htabR (cs := cs136 n) (fun c hc => by
      simp only [cs136, List.mem_cons, List.not_mem_nil, or_false] at hc
      rcases hc with rfl | rfl | rfl
      · exact ok70 n
      · exact ok77 n
      · exact ok81 n) (fun _ => mixed) (by kernel_rfl) (by kernel_rfl) (by decide) (fun x => ⟨0, w136 n x⟩)
-- tranship/transhipref04.raised
def o145_0 (n : Nat) (k1 : Int → Tm → Int → Int → Int → Int → Option (Tm × Bool)) (a0 : Tm) (a1 : Int) (a2 : Bool) : Option (Tm × Bool) :=
  if a2 then
    (f78 n a0).bind fun x1 =>
    k1 a1 x1 (0 : Int) (0 : Int) (0 : Int) (0 : Int)
  else
    k1 a1 a0 (0 : Int) (0 : Int) (0 : Int) (0 : Int)
def o145_1 (n : Nat) (t1 : Int) (t3 : Tm) (t6_0 : Int) (t6_1 : Int) (t6_2 : Int) (t6_3 : Int) : Option (Tm × Bool) :=
  (f131 n t3 t1 (0 : Int)).bind fun x2 =>
  some (x2.1, x2.2)
def c145_1 (n : Nat) (t1 : Int) (t3 : Tm) (t6_0 : Int) (t6_1 : Int) (t6_2 : Int) (t6_3 : Int) : Option (Tm × Bool) :=
  o145_1 n t1 t3 t6_0 t6_1 t6_2 t6_3
def f145 (n : Nat) (a0 : Tm) (a1 : Int) (a2 : Bool) : Option (Tm × Bool) := o145_0 n (c145_1 n) a0 a1 a2
def an145 : An := (.n none [] 0 .z (.n (some 1) [(1, .one .c), (3, .ps 0 .tm false), (6, .p 1 [.c, .c, .c, .c, .k])] 2 .z .z))
def F145 : Fn := { f := 145, a := an145, vars := [.cell 6 45, .tmp 7], ps := [.st .tm, .sc .int, .sc .bool], rs := [.st .tm, .sc .bool], own := false, fr := true, nt := 16, D := 3, loops := [] }
def cs145 (n : Nat) : List Cal := [⟨78, [.st .tm], [.st .tm], false, fun a => f78 n a.1⟩, ⟨131, [.st .tm, .sc .int, .sc .int], [.st .tm, .sc .bool], true, fun a => f131 n a.1 a.2.1 a.2.2.1⟩]
def st145_1 (t1 : Int) (t3 : Tm) (t6_0 : Int) (t6_1 : Int) (t6_2 : Int) (t6_3 : Int) : SS := ⟨[(1, .v (.one (.c (.int t1) true))), (3, .v (.one (.ptr 0 0))), (6, .v (.one (.ptr 1 0)))], [(0, some (.bst .tm t3 false)), (1, some (.box [.c (.int t6_0) true, .c (.int t6_1) true, .c (.int t6_2) true, .c (.int t6_3) true, .nils]))], 2⟩
theorem p145_0 (n : Nat) (lab : Nat → SS → Option (RT.den F145.rs)) (x : PTs.den F145.ps) : F145.body (bodyOf Try.f145) tabR tyR true (cs145 n) lab x = o145_0 n (fun t1 t3 t6_0 t6_1 t6_2 t6_3 => lab 1 (st145_1 t1 t3 t6_0 t6_1 t6_2 t6_3)) x.1 x.2.1 x.2.2.1 := by kernel_rfl
theorem p145_1 (n : Nat) (lab : Nat → SS → Option (RT.den F145.rs)) (t1 : Int) (t3 : Tm) (t6_0 : Int) (t6_1 : Int) (t6_2 : Int) (t6_3 : Int) : F145.at (bodyOf Try.f145) tabR tyR true (cs145 n) lab 1 (st145_1 t1 t3 t6_0 t6_1 t6_2 t6_3) = o145_1 n t1 t3 t6_0 t6_1 t6_2 t6_3 := by kernel_rfl
theorem n145_1 (n : Nat) (rec : Nat → SS → Option (RT.den F145.rs)) (d : Nat) (t1 : Int) (t3 : Tm) (t6_0 : Int) (t6_1 : Int) (t6_2 : Int) (t6_3 : Int) : F145.labD (bodyOf Try.f145) tabR tyR true (cs145 n) rec (d + 1) 1 (st145_1 t1 t3 t6_0 t6_1 t6_2 t6_3) = c145_1 n t1 t3 t6_0 t6_1 t6_2 t6_3 := by
  show F145.labD (bodyOf Try.f145) tabR tyR true (cs145 n) rec (d + 1) 1 _ = _
  rw [Fn.labD_succ, p145_1]
  rfl
theorem w145 (n : Nat) (x : PTs.den F145.ps) : F145.body (bodyOf Try.f145) tabR tyR true (cs145 n) (F145.labX (bodyOf Try.f145) tabR tyR true (cs145 n) (F145.labM (bodyOf Try.f145) tabR tyR true (cs145 n) 0) F145.D) x = o145_0 n (c145_1 n) x.1 x.2.1 x.2.2.1 := by
  have e1 : ∀ t1 t3 t6_0 t6_1 t6_2 t6_3, F145.labX (bodyOf Try.f145) tabR tyR true (cs145 n) (F145.labM (bodyOf Try.f145) tabR tyR true (cs145 n) 0) 3 1 (st145_1 t1 t3 t6_0 t6_1 t6_2 t6_3) = c145_1 n t1 t3 t6_0 t6_1 t6_2 t6_3 := fun t1 t3 t6_0 t6_1 t6_2 t6_3 => (Fn.labX_step _ _ _ _ _ _ _ _ _ _ (by kernel_rfl)).trans (n145_1 n (F145.labM (bodyOf Try.f145) tabR tyR true (cs145 n) 0) 2 t1 t3 t6_0 t6_1 t6_2 t6_3)
  show F145.body (bodyOf Try.f145) tabR tyR true (cs145 n) (F145.labX (bodyOf Try.f145) tabR tyR true (cs145 n) (F145.labM (bodyOf Try.f145) tabR tyR true (cs145 n) 0) 3) x = _
  rw [p145_0]
  simp only [e1]
  try rfl
theorem call145 : Callable Try.prog 145 := callable_of Try.func145 (by kernel_rfl) (by kernel_rfl)
theorem ok145 (n : Nat) : Cal.Ok Try.prog ⟨145, F145.ps, F145.rs, F145.fr, fun a => f145 n a.1 a.2.1 a.2.2.1⟩ :=
  cal_of_fn F145 (code := bodyOf Try.f145) Try.func145 (by kernel_rfl) (by kernel_rfl) call145 htabR (cs := cs145 n) (fun c hc => by
      simp only [cs145, List.mem_cons, List.not_mem_nil, or_false] at hc
      rcases hc with rfl | rfl
      · exact ok78 n
      · exact ok131 n) (fun _ => mixed) (by kernel_rfl) (by kernel_rfl) (by decide) (fun x => ⟨0, w145 n x⟩)
-- tranship/transhipref04.plainly
def o146_0 (a0 : Tm) (a1 : Int) : Option Bool :=
  if (decide ((12 : Int) < a0.kind)) then
    some true
  else
    if (decide (a0.kind = (12 : Int))) then
      some (decide (a1 = (2 : Int)))
    else
      some false
def f146 (a0 : Tm) (a1 : Int) : Option Bool := o146_0 a0 a1
def an146 : An := .z
def F146 : Fn := { f := 146, a := an146, vars := [.tmp 4], ps := [.st .tm, .sc .int], rs := [.sc .bool], own := false, fr := true, nt := 17, D := 2, loops := [] }
def cs146 : List Cal := []
theorem p146_0 (lab : Nat → SS → Option (RT.den F146.rs)) (x : PTs.den F146.ps) : F146.body (bodyOf Try.f146) tabR tyR true cs146 lab x = o146_0 x.1 x.2.1 := by kernel_rfl
theorem w146 (x : PTs.den F146.ps) : F146.body (bodyOf Try.f146) tabR tyR true cs146 (F146.labX (bodyOf Try.f146) tabR tyR true cs146 (F146.labM (bodyOf Try.f146) tabR tyR true cs146 0) F146.D) x = o146_0 x.1 x.2.1 := by
  show F146.body (bodyOf Try.f146) tabR tyR true cs146 (F146.labX (bodyOf Try.f146) tabR tyR true cs146 (F146.labM (bodyOf Try.f146) tabR tyR true cs146 0) 2) x = _
  rw [p146_0]
theorem call146 : Callable Try.prog 146 := callable_of Try.func146 (by kernel_rfl) (by kernel_rfl)
theorem ok146 : Cal.Ok Try.prog ⟨146, F146.ps, F146.rs, F146.fr, fun a => f146 a.1 a.2.1⟩ :=
  cal_of_fn F146 (code := bodyOf Try.f146) Try.func146 (by kernel_rfl) (by kernel_rfl) call146 htabR (cs := cs146) (fun c hc => by simp only [cs146, List.not_mem_nil] at hc) (fun _ => mixed) (by kernel_rfl) (by kernel_rfl) (by decide) (fun x => ⟨0, w146 x⟩)
-- tranship/transhipref04.put
def o137_0 (s137 : Tm → Tm → Int → Bool → Option (Tm × Bool)) (n : Nat) (k1 : Int → Bool → Tm → Tm → Int → Int → Int → Int → Int → Int → Int → Int → (List Tm) → Int → Option (Tm × Bool)) (a0 : Tm) (a1 : Tm) (a2 : Int) (a3 : Bool) : Option (Tm × Bool) :=
  if (decide (a0.kind = (2 : Int))) then
    if (decide (a0.i = a2)) then
      (f145 n a1 a2 a3).bind fun x1 =>
      some (x1.1, x1.2)
    else
      if (decide (a2 < a0.i)) then
        ckI (a0.i - (1 : Int)) <|
        some ((Tm.mk (2 : Int) (a0.i - (1 : Int)) (0 : Int) (0 : Int) ([] : List Tm)), true)
      else
        some (a0, true)
  else
    k1 a2 a3 a0 a1 (0 : Int) (0 : Int) (0 : Int) (0 : Int) a0.kind a0.i a0.j a0.n ([] : List Tm) (0 : Int)
def o137_1 (s137 : Tm → Tm → Int → Bool → Option (Tm × Bool)) (n : Nat) (k2 : Int → Bool → Tm → Tm → Int → Int → Int → Int → Int → Int → Int → Int → (List Tm) → Int → Tm → Bool → Option (Tm × Bool)) (t2 : Int) (t3 : Bool) (t4 : Tm) (t5 : Tm) (t8_0 : Int) (t8_1 : Int) (t8_2 : Int) (t8_3 : Int) (t10_0 : Int) (t10_1 : Int) (t10_2 : Int) (t10_3 : Int) (t11 : List Tm) (t12 : Int) : Option (Tm × Bool) :=
  if (decide (t12 < (t4.kids.length : Int))) then
    atI t4.kids t12 fun x2 =>
    (f60 t4.kind t12).bind fun x3 =>
    ckI (t2 + x3) <|
    if t3 then
      (s137 x2 t5 (t2 + x3) true).bind fun x4 =>
      k2 t2 t3 t4 t5 t8_0 t8_1 t8_2 t8_3 t10_0 t10_1 t10_2 t10_3 t11 t12 x4.1 x4.2
    else
      (f146 t4 t12).bind fun x5 =>
      (s137 x2 t5 (t2 + x3) x5).bind fun x6 =>
      k2 t2 t3 t4 t5 t8_0 t8_1 t8_2 t8_3 t10_0 t10_1 t10_2 t10_3 t11 t12 x6.1 x6.2
  else
    some ((Tm.mk t10_0 t10_1 t10_2 t10_3 t11), true)
def o137_2 (s137 : Tm → Tm → Int → Bool → Option (Tm × Bool)) (n : Nat) (k1 : Int → Bool → Tm → Tm → Int → Int → Int → Int → Int → Int → Int → Int → (List Tm) → Int → Option (Tm × Bool)) (t2 : Int) (t3 : Bool) (t4 : Tm) (t5 : Tm) (t8_0 : Int) (t8_1 : Int) (t8_2 : Int) (t8_3 : Int) (t10_0 : Int) (t10_1 : Int) (t10_2 : Int) (t10_3 : Int) (t11 : List Tm) (t12 : Int) (t13 : Tm) (t14 : Bool) : Option (Tm × Bool) :=
  if (!t14) then
    some ((Tm.mk (0 : Int) (0 : Int) (0 : Int) (0 : Int) ([] : List Tm)), false)
  else
    ckB (decide ((t11.length + [(Tm.mk t13.kind t13.i t13.j t13.n t13.kids)].length) * 56 ≤ 140737488355328) && decide (t11.length + [(Tm.mk t13.kind t13.i t13.j t13.n t13.kids)].length ≤ 9223372036854775807)) <|
    ckI (t12 + (1 : Int)) <|
    k1 t2 t3 t4 t5 t8_0 t8_1 t8_2 t8_3 t10_0 t10_1 t10_2 t10_3 (t11 ++ [(Tm.mk t13.kind t13.i t13.j t13.n t13.kids)]) (t12 + (1 : Int))
def c137_2 (s137 : Tm → Tm → Int → Bool → Option (Tm × Bool)) (n : Nat) (k1 : Int → Bool → Tm → Tm → Int → Int → Int → Int → Int → Int → Int → Int → (List Tm) → Int → Option (Tm × Bool)) (t2 : Int) (t3 : Bool) (t4 : Tm) (t5 : Tm) (t8_0 : Int) (t8_1 : Int) (t8_2 : Int) (t8_3 : Int) (t10_0 : Int) (t10_1 : Int) (t10_2 : Int) (t10_3 : Int) (t11 : List Tm) (t12 : Int) (t13 : Tm) (t14 : Bool) : Option (Tm × Bool) :=
  o137_2 s137 n k1 t2 t3 t4 t5 t8_0 t8_1 t8_2 t8_3 t10_0 t10_1 t10_2 t10_3 t11 t12 t13 t14
def l137_1 (s137 : Tm → Tm → Int → Bool → Option (Tm × Bool)) (n : Nat) : Nat → Int → Bool → Tm → Tm → Int → Int → Int → Int → Int → Int → Int → Int → (List Tm) → Int → Option (Tm × Bool)
  | 0, _, _, _, _, _, _, _, _, _, _, _, _, _, _ => none
  | m + 1, t2, t3, t4, t5, t8_0, t8_1, t8_2, t8_3, t10_0, t10_1, t10_2, t10_3, t11, t12 => o137_1 s137 n (c137_2 s137 n (l137_1 s137 n m)) t2 t3 t4 t5 t8_0 t8_1 t8_2 t8_3 t10_0 t10_1 t10_2 t10_3 t11 t12
def f137 : Nat → Tm → Tm → Int → Bool → Option (Tm × Bool)
  | 0, _, _, _, _ => none
  | n + 1, a0, a1, a2, a3 => o137_0 (f137 n) n (l137_1 (f137 n) n n) a0 a1 a2 a3
def an137 : An := (.n none [] 0 .z (.n none [] 0 .z (.n none [] 0 .z (.n none [] 0 .z (.n none [] 0 (.n none [] 0 .z (.n none [] 0 (.n (some 1) [(2, .one .c), (3, .one .c), (4, .ps 0 .tm false), (5, .ps 1 .tm false), (8, .p 2 [.c, .c, .c, .c, .k]), (10, .p 3 [.c, .c, .c, .c, .k]), (11, .one (.r 4 45 .tm false)), (12, .one .c)] 5 (.n none [] 0 .z (.n none [] 0 (.n none [] 0 (.n (some 2) [(2, .one .c), (3, .one .c), (4, .ps 0 .tm false), (5, .ps 1 .tm false), (8, .p 2 [.c, .c, .c, .c, .k]), (10, .p 3 [.c, .c, .c, .c, .k]), (11, .one (.r 4 45 .tm false)), (12, .one .c), (13, .ps 5 .tm false), (14, .one .c)] 6 .z .z) .z) .z)) .z) .z)) .z)))))
def F137 : Fn := { f := 137, a := an137, vars := [.cell 8 45, .tmp 9], ps := [.st .tm, .st .tm, .sc .int, .sc .bool], rs := [.st .tm, .sc .bool], own := false, fr := false, nt := 85, D := 4, loops := [1] }
def cs137 (s137 : Tm → Tm → Int → Bool → Option (Tm × Bool)) (n : Nat) : List Cal := [⟨60, [.sc .int, .sc .int], [.sc .int], true, fun a => f60 a.1 a.2.1⟩, ⟨137, [.st .tm, .st .tm, .sc .int, .sc .bool], [.st .tm, .sc .bool], false, fun a => s137 a.1 a.2.1 a.2.2.1 a.2.2.2.1⟩, ⟨145, [.st .tm, .sc .int, .sc .bool], [.st .tm, .sc .bool], true, fun a => f145 n a.1 a.2.1 a.2.2.1⟩, ⟨146, [.st .tm, .sc .int], [.sc .bool], true, fun a => f146 a.1 a.2.1⟩]
def st137_1 (t2 : Int) (t3 : Bool) (t4 : Tm) (t5 : Tm) (t8_0 : Int) (t8_1 : Int) (t8_2 : Int) (t8_3 : Int) (t10_0 : Int) (t10_1 : Int) (t10_2 : Int) (t10_3 : Int) (t11 : List Tm) (t12 : Int) : SS := ⟨[(2, .v (.one (.c (.int t2) true))), (3, .v (.one (.c (.bool t3) true))), (4, .v (.one (.ptr 0 0))), (5, .v (.one (.ptr 1 0))), (8, .v (.one (.ptr 2 0))), (10, .v (.one (.ptr 3 0))), (11, .v (.one (.arr 4))), (12, .v (.one (.c (.int t12) true)))], [(0, some (.bst .tm t4 false)), (1, some (.bst .tm t5 false)), (2, some (.box [.c (.int t8_0) true, .c (.int t8_1) true, .c (.int t8_2) true, .c (.int t8_3) true, .nils])), (3, some (.box [.c (.int t10_0) true, .c (.int t10_1) true, .c (.int t10_2) true, .c (.int t10_3) true, .nils])), (4, some (.row 45 .tm t11 false))], 5⟩
def st137_2 (t2 : Int) (t3 : Bool) (t4 : Tm) (t5 : Tm) (t8_0 : Int) (t8_1 : Int) (t8_2 : Int) (t8_3 : Int) (t10_0 : Int) (t10_1 : Int) (t10_2 : Int) (t10_3 : Int) (t11 : List Tm) (t12 : Int) (t13 : Tm) (t14 : Bool) : SS := ⟨[(2, .v (.one (.c (.int t2) true))), (3, .v (.one (.c (.bool t3) true))), (4, .v (.one (.ptr 0 0))), (5, .v (.one (.ptr 1 0))), (8, .v (.one (.ptr 2 0))), (10, .v (.one (.ptr 3 0))), (11, .v (.one (.arr 4))), (12, .v (.one (.c (.int t12) true))), (13, .v (.one (.ptr 5 0))), (14, .v (.one (.c (.bool t14) true)))], [(0, some (.bst .tm t4 false)), (1, some (.bst .tm t5 false)), (2, some (.box [.c (.int t8_0) true, .c (.int t8_1) true, .c (.int t8_2) true, .c (.int t8_3) true, .nils])), (3, some (.box [.c (.int t10_0) true, .c (.int t10_1) true, .c (.int t10_2) true, .c (.int t10_3) true, .nils])), (4, some (.row 45 .tm t11 false)), (5, some (.bst .tm t13 false))], 6⟩
theorem p137_0 (s137 : Tm → Tm → Int → Bool → Option (Tm × Bool)) (n : Nat) (lab : Nat → SS → Option (RT.den F137.rs)) (x : PTs.den F137.ps) : F137.body (bodyOf Try.f137) tabR tyR true (cs137 s137 n) lab x = o137_0 s137 n (fun t2 t3 t4 t5 t8_0 t8_1 t8_2 t8_3 t10_0 t10_1 t10_2 t10_3 t11 t12 => lab 1 (st137_1 t2 t3 t4 t5 t8_0 t8_1 t8_2 t8_3 t10_0 t10_1 t10_2 t10_3 t11 t12)) x.1 x.2.1 x.2.2.1 x.2.2.2.1 := by kernel_rfl
theorem p137_1 (s137 : Tm → Tm → Int → Bool → Option (Tm × Bool)) (n : Nat) (lab : Nat → SS → Option (RT.den F137.rs)) (t2 : Int) (t3 : Bool) (t4 : Tm) (t5 : Tm) (t8_0 : Int) (t8_1 : Int) (t8_2 : Int) (t8_3 : Int) (t10_0 : Int) (t10_1 : Int) (t10_2 : Int) (t10_3 : Int) (t11 : List Tm) (t12 : Int) : F137.at (bodyOf Try.f137) tabR tyR true (cs137 s137 n) lab 1 (st137_1 t2 t3 t4 t5 t8_0 t8_1 t8_2 t8_3 t10_0 t10_1 t10_2 t10_3 t11 t12) = o137_1 s137 n (fun t2 t3 t4 t5 t8_0 t8_1 t8_2 t8_3 t10_0 t10_1 t10_2 t10_3 t11 t12 t13 t14 => lab 2 (st137_2 t2 t3 t4 t5 t8_0 t8_1 t8_2 t8_3 t10_0 t10_1 t10_2 t10_3 t11 t12 t13 t14)) t2 t3 t4 t5 t8_0 t8_1 t8_2 t8_3 t10_0 t10_1 t10_2 t10_3 t11 t12 := by kernel_rfl
theorem p137_2 (s137 : Tm → Tm → Int → Bool → Option (Tm × Bool)) (n : Nat) (lab : Nat → SS → Option (RT.den F137.rs)) (t2 : Int) (t3 : Bool) (t4 : Tm) (t5 : Tm) (t8_0 : Int) (t8_1 : Int) (t8_2 : Int) (t8_3 : Int) (t10_0 : Int) (t10_1 : Int) (t10_2 : Int) (t10_3 : Int) (t11 : List Tm) (t12 : Int) (t13 : Tm) (t14 : Bool) : F137.at (bodyOf Try.f137) tabR tyR true (cs137 s137 n) lab 2 (st137_2 t2 t3 t4 t5 t8_0 t8_1 t8_2 t8_3 t10_0 t10_1 t10_2 t10_3 t11 t12 t13 t14) = o137_2 s137 n (fun t2 t3 t4 t5 t8_0 t8_1 t8_2 t8_3 t10_0 t10_1 t10_2 t10_3 t11 t12 => lab 1 (st137_1 t2 t3 t4 t5 t8_0 t8_1 t8_2 t8_3 t10_0 t10_1 t10_2 t10_3 t11 t12)) t2 t3 t4 t5 t8_0 t8_1 t8_2 t8_3 t10_0 t10_1 t10_2 t10_3 t11 t12 t13 t14 := by kernel_rfl
theorem n137_2 (s137 : Tm → Tm → Int → Bool → Option (Tm × Bool)) (n : Nat) (rec : Nat → SS → Option (RT.den F137.rs)) (k1 : Int → Bool → Tm → Tm → Int → Int → Int → Int → Int → Int → Int → Int → (List Tm) → Int → Option (Tm × Bool)) (h1 : ∀ t2 t3 t4 t5 t8_0 t8_1 t8_2 t8_3 t10_0 t10_1 t10_2 t10_3 t11 t12, rec 1 (st137_1 t2 t3 t4 t5 t8_0 t8_1 t8_2 t8_3 t10_0 t10_1 t10_2 t10_3 t11 t12) = k1 t2 t3 t4 t5 t8_0 t8_1 t8_2 t8_3 t10_0 t10_1 t10_2 t10_3 t11 t12) (d : Nat) (t2 : Int) (t3 : Bool) (t4 : Tm) (t5 : Tm) (t8_0 : Int) (t8_1 : Int) (t8_2 : Int) (t8_3 : Int) (t10_0 : Int) (t10_1 : Int) (t10_2 : Int) (t10_3 : Int) (t11 : List Tm) (t12 : Int) (t13 : Tm) (t14 : Bool) : F137.labD (bodyOf Try.f137) tabR tyR true (cs137 s137 n) rec (d + 1) 2 (st137_2 t2 t3 t4 t5 t8_0 t8_1 t8_2 t8_3 t10_0 t10_1 t10_2 t10_3 t11 t12 t13 t14) = c137_2 s137 n k1 t2 t3 t4 t5 t8_0 t8_1 t8_2 t8_3 t10_0 t10_1 t10_2 t10_3 t11 t12 t13 t14 := by
  have e1 : ∀ t2 t3 t4 t5 t8_0 t8_1 t8_2 t8_3 t10_0 t10_1 t10_2 t10_3 t11 t12, F137.labX (bodyOf Try.f137) tabR tyR true (cs137 s137 n) rec d 1 (st137_1 t2 t3 t4 t5 t8_0 t8_1 t8_2 t8_3 t10_0 t10_1 t10_2 t10_3 t11 t12) = k1 t2 t3 t4 t5 t8_0 t8_1 t8_2 t8_3 t10_0 t10_1 t10_2 t10_3 t11 t12 := fun t2 t3 t4 t5 t8_0 t8_1 t8_2 t8_3 t10_0 t10_1 t10_2 t10_3 t11 t12 => (Fn.labX_loop _ _ _ _ _ _ _ _ _ _ (by kernel_rfl)).trans (h1 t2 t3 t4 t5 t8_0 t8_1 t8_2 t8_3 t10_0 t10_1 t10_2 t10_3 t11 t12)
  show F137.labD (bodyOf Try.f137) tabR tyR true (cs137 s137 n) rec (d + 1) 2 _ = _
  rw [Fn.labD_succ, p137_2]
  simp only [e1]
  rfl
theorem m137_1 (s137 : Tm → Tm → Int → Bool → Option (Tm × Bool)) (n : Nat) : ∀ m : Nat, (∀ t2 t3 t4 t5 t8_0 t8_1 t8_2 t8_3 t10_0 t10_1 t10_2 t10_3 t11 t12, F137.labM (bodyOf Try.f137) tabR tyR true (cs137 s137 n) m 1 (st137_1 t2 t3 t4 t5 t8_0 t8_1 t8_2 t8_3 t10_0 t10_1 t10_2 t10_3 t11 t12) = l137_1 s137 n m t2 t3 t4 t5 t8_0 t8_1 t8_2 t8_3 t10_0 t10_1 t10_2 t10_3 t11 t12) := by
  intro m
  induction m with
  | zero => exact fun _ _ _ _ _ _ _ _ _ _ _ _ _ _ => rfl
  | succ m ih =>
    intro t2 t3 t4 t5 t8_0 t8_1 t8_2 t8_3 t10_0 t10_1 t10_2 t10_3 t11 t12
    have e2 : ∀ t2 t3 t4 t5 t8_0 t8_1 t8_2 t8_3 t10_0 t10_1 t10_2 t10_3 t11 t12 t13 t14, F137.labX (bodyOf Try.f137) tabR tyR true (cs137 s137 n) (F137.labM (bodyOf Try.f137) tabR tyR true (cs137 s137 n) m) 3 2 (st137_2 t2 t3 t4 t5 t8_0 t8_1 t8_2 t8_3 t10_0 t10_1 t10_2 t10_3 t11 t12 t13 t14) = c137_2 s137 n (l137_1 s137 n m) t2 t3 t4 t5 t8_0 t8_1 t8_2 t8_3 t10_0 t10_1 t10_2 t10_3 t11 t12 t13 t14 := fun t2 t3 t4 t5 t8_0 t8_1 t8_2 t8_3 t10_0 t10_1 t10_2 t10_3 t11 t12 t13 t14 => (Fn.labX_step _ _ _ _ _ _ _ _ _ _ (by kernel_rfl)).trans (n137_2 s137 n (F137.labM (bodyOf Try.f137) tabR tyR true (cs137 s137 n) m) (l137_1 s137 n m) ih 2 t2 t3 t4 t5 t8_0 t8_1 t8_2 t8_3 t10_0 t10_1 t10_2 t10_3 t11 t12 t13 t14)
    rw [Fn.labM_succ]
    show F137.labD (bodyOf Try.f137) tabR tyR true (cs137 s137 n) (F137.labM (bodyOf Try.f137) tabR tyR true (cs137 s137 n) m) (3 + 1) 1 _ = _
    rw [Fn.labD_succ, p137_1]
    simp only [e2]
    rfl
theorem w137 (s137 : Tm → Tm → Int → Bool → Option (Tm × Bool)) (n : Nat) (x : PTs.den F137.ps) : F137.body (bodyOf Try.f137) tabR tyR true (cs137 s137 n) (F137.labX (bodyOf Try.f137) tabR tyR true (cs137 s137 n) (F137.labM (bodyOf Try.f137) tabR tyR true (cs137 s137 n) n) F137.D) x = o137_0 s137 n (l137_1 s137 n n) x.1 x.2.1 x.2.2.1 x.2.2.2.1 := by
  have e1 : ∀ t2 t3 t4 t5 t8_0 t8_1 t8_2 t8_3 t10_0 t10_1 t10_2 t10_3 t11 t12, F137.labX (bodyOf Try.f137) tabR tyR true (cs137 s137 n) (F137.labM (bodyOf Try.f137) tabR tyR true (cs137 s137 n) n) 4 1 (st137_1 t2 t3 t4 t5 t8_0 t8_1 t8_2 t8_3 t10_0 t10_1 t10_2 t10_3 t11 t12) = (l137_1 s137 n n) t2 t3 t4 t5 t8_0 t8_1 t8_2 t8_3 t10_0 t10_1 t10_2 t10_3 t11 t12 := fun t2 t3 t4 t5 t8_0 t8_1 t8_2 t8_3 t10_0 t10_1 t10_2 t10_3 t11 t12 => (Fn.labX_loop _ _ _ _ _ _ _ _ _ _ (by kernel_rfl)).trans ((m137_1 s137 n n) t2 t3 t4 t5 t8_0 t8_1 t8_2 t8_3 t10_0 t10_1 t10_2 t10_3 t11 t12)
  show F137.body (bodyOf Try.f137) tabR tyR true (cs137 s137 n) (F137.labX (bodyOf Try.f137) tabR tyR true (cs137 s137 n) (F137.labM (bodyOf Try.f137) tabR tyR true (cs137 s137 n) n) 4) x = _
  rw [p137_0]
  simp only [e1]
  try rfl
theorem call137 : Callable Try.prog 137 := callable_of Try.func137 (by kernel_rfl) (by kernel_rfl)
theorem okr137 : ∀ n : Nat, Cal.Ok Try.prog ⟨137, F137.ps, F137.rs, F137.fr, fun a => f137 n a.1 a.2.1 a.2.2.1 a.2.2.2.1⟩
  | 0 => ⟨by kernel_rfl, fun a r h => by cases h⟩
  | n + 1 => cal_of_fn F137 (code := bodyOf Try.f137) Try.func137 (by kernel_rfl) (by kernel_rfl) call137 htabR (cs := cs137 (f137 n) n) (fun c hc => by
      simp only [cs137, List.mem_cons, List.not_mem_nil, or_false] at hc
      rcases hc with rfl | rfl | rfl | rfl
      · exact ok60
      · exact (okr137 n)
      · exact ok145 n
      · exact ok146) (fun _ => mixed) (by kernel_rfl) (by kernel_rfl) (by decide) (fun x => ⟨n, w137 (f137 n) n x⟩)
theorem ok137 (n : Nat) : Cal.Ok Try.prog ⟨137, F137.ps, F137.rs, F137.fr, fun a => f137 n a.1 a.2.1 a.2.2.1 a.2.2.2.1⟩ := (okr137 n)
-- tranship/transhipref04.Put
def o96_0 (n : Nat) (k1 : Tm → Tm → Int → Int → Int → Int → Option Tm) (a0 : Tm) (a1 : Tm) : Option Tm :=
  (f81 n a0).bind fun x1 =>
  if (!x1) then
    some (Tm.mk (0 : Int) (0 : Int) (0 : Int) (0 : Int) ([] : List Tm))
  else
    (f136 n a0 a1).bind fun x2 =>
    if (!x2) then
      some (Tm.mk (0 : Int) (0 : Int) (0 : Int) (0 : Int) ([] : List Tm))
    else
      k1 a0 a1 (0 : Int) (0 : Int) (0 : Int) (0 : Int)
def o96_1 (n : Nat) (t2 : Tm) (t3 : Tm) (t4_0 : Int) (t4_1 : Int) (t4_2 : Int) (t4_3 : Int) : Option Tm :=
  (f137 n t2 t3 (0 : Int) false).bind fun x3 =>
  if (!x3.2) then
    some (Tm.mk (0 : Int) (0 : Int) (0 : Int) (0 : Int) ([] : List Tm))
  else
    some x3.1
def c96_1 (n : Nat) (t2 : Tm) (t3 : Tm) (t4_0 : Int) (t4_1 : Int) (t4_2 : Int) (t4_3 : Int) : Option Tm :=
  o96_1 n t2 t3 t4_0 t4_1 t4_2 t4_3
def f96 (n : Nat) (a0 : Tm) (a1 : Tm) : Option Tm := o96_0 n (c96_1 n) a0 a1
def an96 : An := (.n none [] 0 .z (.n (some 1) [(2, .ps 0 .tm false), (3, .ps 1 .tm false), (4, .p 2 [.c, .c, .c, .c, .k])] 3 .z .z))
def F96 : Fn := { f := 96, a := an96, vars := [.cell 4 45], ps := [.st .tm, .st .tm], rs := [.st .tm], own := false, fr := false, nt := 27, D := 3, loops := [] }
def cs96 (n : Nat) : List Cal := [⟨81, [.st .tm], [.sc .bool], true, fun a => f81 n a.1⟩, ⟨136, [.st .tm, .st .tm], [.sc .bool], true, fun a => f136 n a.1 a.2.1⟩, ⟨137, [.st .tm, .st .tm, .sc .int, .sc .bool], [.st .tm, .sc .bool], false, fun a => f137 n a.1 a.2.1 a.2.2.1 a.2.2.2.1⟩]
def st96_1 (t2 : Tm) (t3 : Tm) (t4_0 : Int) (t4_1 : Int) (t4_2 : Int) (t4_3 : Int) : SS := ⟨[(2, .v (.one (.ptr 0 0))), (3, .v (.one (.ptr 1 0))), (4, .v (.one (.ptr 2 0)))], [(0, some (.bst .tm t2 false)), (1, some (.bst .tm t3 false)), (2, some (.box [.c (.int t4_0) true, .c (.int t4_1) true, .c (.int t4_2) true, .c (.int t4_3) true, .nils]))], 3⟩
theorem p96_0 (n : Nat) (lab : Nat → SS → Option (RT.den F96.rs)) (x : PTs.den F96.ps) : F96.body (bodyOf Try.f96) tabR tyR true (cs96 n) lab x = o96_0 n (fun t2 t3 t4_0 t4_1 t4_2 t4_3 => lab 1 (st96_1 t2 t3 t4_0 t4_1 t4_2 t4_3)) x.1 x.2.1 := by kernel_rfl
theorem p96_1 (n : Nat) (lab : Nat → SS → Option (RT.den F96.rs)) (t2 : Tm) (t3 : Tm) (t4_0 : Int) (t4_1 : Int) (t4_2 : Int) (t4_3 : Int) : F96.at (bodyOf Try.f96) tabR tyR true (cs96 n) lab 1 (st96_1 t2 t3 t4_0 t4_1 t4_2 t4_3) = o96_1 n t2 t3 t4_0 t4_1 t4_2 t4_3 := by kernel_rfl
theorem n96_1 (n : Nat) (rec : Nat → SS → Option (RT.den F96.rs)) (d : Nat) (t2 : Tm) (t3 : Tm) (t4_0 : Int) (t4_1 : Int) (t4_2 : Int) (t4_3 : Int) : F96.labD (bodyOf Try.f96) tabR tyR true (cs96 n) rec (d + 1) 1 (st96_1 t2 t3 t4_0 t4_1 t4_2 t4_3) = c96_1 n t2 t3 t4_0 t4_1 t4_2 t4_3 := by
  show F96.labD (bodyOf Try.f96) tabR tyR true (cs96 n) rec (d + 1) 1 _ = _
  rw [Fn.labD_succ, p96_1]
  rfl
theorem w96 (n : Nat) (x : PTs.den F96.ps) : F96.body (bodyOf Try.f96) tabR tyR true (cs96 n) (F96.labX (bodyOf Try.f96) tabR tyR true (cs96 n) (F96.labM (bodyOf Try.f96) tabR tyR true (cs96 n) 0) F96.D) x = o96_0 n (c96_1 n) x.1 x.2.1 := by
  have e1 : ∀ t2 t3 t4_0 t4_1 t4_2 t4_3, F96.labX (bodyOf Try.f96) tabR tyR true (cs96 n) (F96.labM (bodyOf Try.f96) tabR tyR true (cs96 n) 0) 3 1 (st96_1 t2 t3 t4_0 t4_1 t4_2 t4_3) = c96_1 n t2 t3 t4_0 t4_1 t4_2 t4_3 := fun t2 t3 t4_0 t4_1 t4_2 t4_3 => (Fn.labX_step _ _ _ _ _ _ _ _ _ _ (by kernel_rfl)).trans (n96_1 n (F96.labM (bodyOf Try.f96) tabR tyR true (cs96 n) 0) 2 t2 t3 t4_0 t4_1 t4_2 t4_3)
  show F96.body (bodyOf Try.f96) tabR tyR true (cs96 n) (F96.labX (bodyOf Try.f96) tabR tyR true (cs96 n) (F96.labM (bodyOf Try.f96) tabR tyR true (cs96 n) 0) 3) x = _
  rw [p96_0]
  simp only [e1]
  try rfl
theorem call96 : Callable Try.prog 96 := callable_of Try.func96 (by kernel_rfl) (by kernel_rfl)
theorem ok96 (n : Nat) : Cal.Ok Try.prog ⟨96, F96.ps, F96.rs, F96.fr, fun a => f96 n a.1 a.2.1⟩ :=
  cal_of_fn F96 (code := bodyOf Try.f96) Try.func96 (by kernel_rfl) (by kernel_rfl) call96 htabR (cs := cs96 n) (fun c hc => by
      simp only [cs96, List.mem_cons, List.not_mem_nil, or_false] at hc
      rcases hc with rfl | rfl | rfl
      · exact ok81 n
      · exact ok136 n
      · exact ok137 n) (fun _ => mixed) (by kernel_rfl) (by kernel_rfl) (by decide) (fun x => ⟨0, w96 n x⟩)
-- tranship/subst.open
def o147_0 (a0 : Tm) : Option Bool :=
  if (decide (a0.kind = (1 : Int))) then
    some true
  else
    if (decide (a0.kind = (2 : Int))) then
      some true
    else
      some (decide ((13 : Int) ≤ a0.kind))
def f147 (a0 : Tm) : Option Bool := o147_0 a0
def an147 : An := .z
def F147 : Fn := { f := 147, a := an147, vars := [.tmp 2], ps := [.st .tm], rs := [.sc .bool], own := false, fr := true, nt := 16, D := 2, loops := [] }
def cs147 : List Cal := []
theorem p147_0 (lab : Nat → SS → Option (RT.den F147.rs)) (x : PTs.den F147.ps) : F147.body (bodyOf Try.f147) tabR tyR true cs147 lab x = o147_0 x.1 := by kernel_rfl
theorem w147 (x : PTs.den F147.ps) : F147.body (bodyOf Try.f147) tabR tyR true cs147 (F147.labX (bodyOf Try.f147) tabR tyR true cs147 (F147.labM (bodyOf Try.f147) tabR tyR true cs147 0) F147.D) x = o147_0 x.1 := by
  show F147.body (bodyOf Try.f147) tabR tyR true cs147 (F147.labX (bodyOf Try.f147) tabR tyR true cs147 (F147.labM (bodyOf Try.f147) tabR tyR true cs147 0) 2) x = _
  rw [p147_0]
theorem call147 : Callable Try.prog 147 := callable_of Try.func147 (by kernel_rfl) (by kernel_rfl)
theorem ok147 : Cal.Ok Try.prog ⟨147, F147.ps, F147.rs, F147.fr, fun a => f147 a.1⟩ :=
  cal_of_fn F147 (code := bodyOf Try.f147) Try.func147 (by kernel_rfl) (by kernel_rfl) call147 htabR (cs := cs147) (fun c hc => by simp only [cs147, List.not_mem_nil] at hc) (fun _ => mixed) (by kernel_rfl) (by kernel_rfl) (by decide) (fun x => ⟨0, w147 x⟩)
-- (*tranship/subst.putting).at
def o151_0 (n : Nat) (a0 : List Tm × List Tm × Bool × Unit) (a1 : Int) (a2 : Int) (a3 : Bool) : Option (Tm × Bool) :=
  if (decide ((a0.1.length : Int) ≤ a1)) then
    if (!a0.2.2.1) then
      some ((Tm.mk (0 : Int) (0 : Int) (0 : Int) (0 : Int) ([] : List Tm)), false)
    else
      ckI (a1 - (a0.1.length : Int)) <|
      ckI ((a1 - (a0.1.length : Int)) + a2) <|
      (f152 ((a1 - (a0.1.length : Int)) + a2)).bind fun x1 =>
      some (x1, true)
  else
    if a3 then
      atI a0.2.1 a1 fun x2 =>
      (f132 n x2 a2 (0 : Int)).bind fun x3 =>
      some (x3.1, x3.2)
    else
      atI a0.1 a1 fun x4 =>
      (f132 n x4 a2 (0 : Int)).bind fun x5 =>
      some (x5.1, x5.2)
def f151 (n : Nat) (a0 : List Tm × List Tm × Bool × Unit) (a1 : Int) (a2 : Int) (a3 : Bool) : Option (Tm × Bool) := o151_0 n a0 a1 a2 a3
def an151 : An := .z
def F151 : Fn := { f := 151, a := an151, vars := [.cell 8 45, .tmp 9], ps := [.ro [(true, .tm), (true, .tm), (false, .bool)], .sc .int, .sc .int, .sc .bool], rs := [.st .tm, .sc .bool], own := false, fr := true, nt := 56, D := 2, loops := [] }
def cs151 (n : Nat) : List Cal := [⟨132, [.st .tm, .sc .int, .sc .int], [.st .tm, .sc .bool], true, fun a => f132 n a.1 a.2.1 a.2.2.1⟩, ⟨152, [.sc .int], [.st .tm], true, fun a => f152 a.1⟩]
theorem p151_0 (n : Nat) (lab : Nat → SS → Option (RT.den F151.rs)) (x : PTs.den F151.ps) : F151.body (bodyOf Try.f151) tabR tyR true (cs151 n) lab x = o151_0 n x.1 x.2.1 x.2.2.1 x.2.2.2.1 := by kernel_rfl
theorem w151 (n : Nat) (x : PTs.den F151.ps) : F151.body (bodyOf Try.f151) tabR tyR true (cs151 n) (F151.labX (bodyOf Try.f151) tabR tyR true (cs151 n) (F151.labM (bodyOf Try.f151) tabR tyR true (cs151 n) 0) F151.D) x = o151_0 n x.1 x.2.1 x.2.2.1 x.2.2.2.1 := by
  show F151.body (bodyOf Try.f151) tabR tyR true (cs151 n) (F151.labX (bodyOf Try.f151) tabR tyR true (cs151 n) (F151.labM (bodyOf Try.f151) tabR tyR true (cs151 n) 0) 2) x = _
  rw [p151_0]
theorem call151 : Callable Try.prog 151 := callable_of Try.func151 (by kernel_rfl) (by kernel_rfl)
theorem ok151 (n : Nat) : Cal.Ok Try.prog ⟨151, F151.ps, F151.rs, F151.fr, fun a => f151 n a.1 a.2.1 a.2.2.1 a.2.2.2.1⟩ :=
  cal_of_fn F151 (code := bodyOf Try.f151) Try.func151 (by kernel_rfl) (by kernel_rfl) call151 htabR (cs := cs151 n) (fun c hc => by
      simp only [cs151, List.mem_cons, List.not_mem_nil, or_false] at hc
      rcases hc with rfl | rfl
      · exact ok132 n
      · exact ok152) (fun _ => mixed) (by kernel_rfl) (by kernel_rfl) (by decide) (fun x => ⟨0, w151 n x⟩)
-- (*tranship/subst.putting).walk
def o148_0 (s148 : (List Tm × List Tm × Bool × Unit) → Tm → Int → Bool → Option (Tm × Bool)) (n : Nat) (k1 : (List Tm) → (List Tm) → Bool → Int → Bool → Tm → Int → Int → Int → Int → Bool → Option (Tm × Bool)) (a0 : List Tm × List Tm × Bool × Unit) (a1 : Tm) (a2 : Int) (a3 : Bool) : Option (Tm × Bool) :=
  if (decide (a1.kind = (2 : Int))) then
    k1 a0.1 a0.2.1 a0.2.2.1 a2 a3 a1 (0 : Int) (0 : Int) (0 : Int) (0 : Int) (decide (a2 ≤ a1.i))
  else
    k1 a0.1 a0.2.1 a0.2.2.1 a2 a3 a1 (0 : Int) (0 : Int) (0 : Int) (0 : Int) false
def o148_1 (s148 : (List Tm × List Tm × Bool × Unit) → Tm → Int → Bool → Option (Tm × Bool)) (n : Nat) (k2 : (List Tm) → (List Tm) → Bool → Int → Bool → Tm → Int → Int → Int → Int → (List Tm) → (List Tm) → Int → Int → Option (Tm × Bool)) (t0_0 : List Tm) (t0_1 : List Tm) (t0_2 : Bool) (t2 : Int) (t3 : Bool) (t5 : Tm) (t8_0 : Int) (t8_1 : Int) (t8_2 : Int) (t8_3 : Int) (t23 : Bool) : Option (Tm × Bool) :=
  if t23 then
    ckI (t5.i - t2) <|
    (f151 n (t0_0, t0_1, t0_2, ()) (t5.i - t2) t2 t3).bind fun x1 =>
    some (x1.1, x1.2)
  else
    if (decide ((t5.kids.length : Int) = (0 : Int))) then
      some ((Tm.mk t5.kind t5.i t5.j t5.n ([] : List Tm)), true)
    else
      ckB (decide (0 ≤ (t5.kids.length : Int)) && (decide ((t5.kids.length : Int) ≤ (t5.kids.length : Int)) && decide ((56 : Nat) * (t5.kids.length : Int) ≤ 281474976710656))) <|
      k2 t0_0 t0_1 t0_2 t2 t3 t5 t8_0 t8_1 t8_2 t8_3 (List.replicate (t5.kids.length : Int).toNat (Tm.mk (0 : Int) (0 : Int) (0 : Int) (0 : Int) ([] : List Tm))) t5.kids (t5.kids.length : Int) (0 : Int)
def o148_2 (s148 : (List Tm × List Tm × Bool × Unit) → Tm → Int → Bool → Option (Tm × Bool)) (n : Nat) (k3 : (List Tm) → (List Tm) → Bool → Int → Bool → Tm → Int → Int → Int → Int → (List Tm) → Int → Tm → Bool → (List Tm) → Int → Int → Option (Tm × Bool)) (t0_0 : List Tm) (t0_1 : List Tm) (t0_2 : Bool) (t2 : Int) (t3 : Bool) (t5 : Tm) (t8_0 : Int) (t8_1 : Int) (t8_2 : Int) (t8_3 : Int) (t10 : List Tm) (t45 : List Tm) (t46 : Int) (t47 : Int) : Option (Tm × Bool) :=
  if (decide (t47 < t46)) then
    atI t45 t47 fun x2 =>
    (f113 t5.kind t47).bind fun x3 =>
    ckI (t2 + x3) <|
    if t3 then
      (s148 (t0_0, t0_1, t0_2, ()) x2 (t2 + x3) true).bind fun x4 =>
      k3 t0_0 t0_1 t0_2 t2 t3 t5 t8_0 t8_1 t8_2 t8_3 t10 t47 x4.1 x4.2 t45 t46 t47
    else
      if (decide (t5.kind = (12 : Int))) then
        (s148 (t0_0, t0_1, t0_2, ()) x2 (t2 + x3) (decide (t47 = (2 : Int)))).bind fun x5 =>
        k3 t0_0 t0_1 t0_2 t2 t3 t5 t8_0 t8_1 t8_2 t8_3 t10 t47 x5.1 x5.2 t45 t46 t47
      else
        (s148 (t0_0, t0_1, t0_2, ()) x2 (t2 + x3) false).bind fun x6 =>
        k3 t0_0 t0_1 t0_2 t2 t3 t5 t8_0 t8_1 t8_2 t8_3 t10 t47 x6.1 x6.2 t45 t46 t47
  else
    some ((Tm.mk t5.kind t5.i t5.j t5.n t10), true)
def o148_3 (s148 : (List Tm × List Tm × Bool × Unit) → Tm → Int → Bool → Option (Tm × Bool)) (n : Nat) (k2 : (List Tm) → (List Tm) → Bool → Int → Bool → Tm → Int → Int → Int → Int → (List Tm) → (List Tm) → Int → Int → Option (Tm × Bool)) (t0_0 : List Tm) (t0_1 : List Tm) (t0_2 : Bool) (t2 : Int) (t3 : Bool) (t5 : Tm) (t8_0 : Int) (t8_1 : Int) (t8_2 : Int) (t8_3 : Int) (t10 : List Tm) (t11 : Int) (t13 : Tm) (t14 : Bool) (t45 : List Tm) (t46 : Int) (t47 : Int) : Option (Tm × Bool) :=
  if (!t14) then
    some ((Tm.mk (0 : Int) (0 : Int) (0 : Int) (0 : Int) ([] : List Tm)), false)
  else
    ckB (decide (0 ≤ t11) && decide (t11 < t10.length)) <|
    ckB (decide (t11.toNat < t10.length)) <|
    ckI (t47 + (1 : Int)) <|
    k2 t0_0 t0_1 t0_2 t2 t3 t5 t8_0 t8_1 t8_2 t8_3 (t10.set t11.toNat (Tm.mk t13.kind t13.i t13.j t13.n t13.kids)) t45 t46 (t47 + (1 : Int))
def c148_1 (s148 : (List Tm × List Tm × Bool × Unit) → Tm → Int → Bool → Option (Tm × Bool)) (n : Nat) (k2 : (List Tm) → (List Tm) → Bool → Int → Bool → Tm → Int → Int → Int → Int → (List Tm) → (List Tm) → Int → Int → Option (Tm × Bool)) (t0_0 : List Tm) (t0_1 : List Tm) (t0_2 : Bool) (t2 : Int) (t3 : Bool) (t5 : Tm) (t8_0 : Int) (t8_1 : Int) (t8_2 : Int) (t8_3 : Int) (t23 : Bool) : Option (Tm × Bool) :=
  o148_1 s148 n k2 t0_0 t0_1 t0_2 t2 t3 t5 t8_0 t8_1 t8_2 t8_3 t23
def c148_3 (s148 : (List Tm × List Tm × Bool × Unit) → Tm → Int → Bool → Option (Tm × Bool)) (n : Nat) (k2 : (List Tm) → (List Tm) → Bool → Int → Bool → Tm → Int → Int → Int → Int → (List Tm) → (List Tm) → Int → Int → Option (Tm × Bool)) (t0_0 : List Tm) (t0_1 : List Tm) (t0_2 : Bool) (t2 : Int) (t3 : Bool) (t5 : Tm) (t8_0 : Int) (t8_1 : Int) (t8_2 : Int) (t8_3 : Int) (t10 : List Tm) (t11 : Int) (t13 : Tm) (t14 : Bool) (t45 : List Tm) (t46 : Int) (t47 : Int) : Option (Tm × Bool) :=
  o148_3 s148 n k2 t0_0 t0_1 t0_2 t2 t3 t5 t8_0 t8_1 t8_2 t8_3 t10 t11 t13 t14 t45 t46 t47
def l148_2 (s148 : (List Tm × List Tm × Bool × Unit) → Tm → Int → Bool → Option (Tm × Bool)) (n : Nat) : Nat → (List Tm) → (List Tm) → Bool → Int → Bool → Tm → Int → Int → Int → Int → (List Tm) → (List Tm) → Int → Int → Option (Tm × Bool)
  | 0, _, _, _, _, _, _, _, _, _, _, _, _, _, _ => none
  | m + 1, t0_0, t0_1, t0_2, t2, t3, t5, t8_0, t8_1, t8_2, t8_3, t10, t45, t46, t47 => o148_2 s148 n (c148_3 s148 n (l148_2 s148 n m)) t0_0 t0_1 t0_2 t2 t3 t5 t8_0 t8_1 t8_2 t8_3 t10 t45 t46 t47
def f148 : Nat → (List Tm × List Tm × Bool × Unit) → Tm → Int → Bool → Option (Tm × Bool)
  | 0, _, _, _, _ => none
  | n + 1, a0, a1, a2, a3 => o148_0 (f148 n) n (c148_1 (f148 n) n (l148_2 (f148 n) n n)) a0 a1 a2 a3
def an148 : An := (.n none [] 0 .z (.n none [] 0 (.n (some 1) [(0, .one .k), (2, .one .c), (3, .one .c), (5, .ps 0 .tm false), (8, .p 1 [.c, .c, .c, .c, .k]), (23, .one .c)] 2 .z .z) (.n none [] 0 .z (.n none [] 0 .z (.n none [] 0 (.n none [] 0 .z (.n none [] 0 (.n (some 2) [(0, .one .k), (2, .one .c), (3, .one .c), (5, .ps 0 .tm false), (8, .p 1 [.c, .c, .c, .c, .k]), (10, .one (.r 2 45 .tm true)), (45, .one (.d .tm false)), (46, .one .c), (47, .one .c)] 3 (.n none [] 0 .z (.n none [] 0 .z (.n none [] 0 (.n none [] 0 (.n none [] 0 .z (.n (some 3) [(0, .one .k), (2, .one .c), (3, .one .c), (5, .ps 0 .tm false), (8, .p 1 [.c, .c, .c, .c, .k]), (10, .one (.r 2 45 .tm true)), (11, .one .c), (13, .ps 3 .tm true), (14, .one .c), (45, .one (.d .tm false)), (46, .one .c), (47, .one .c)] 4 .z .z)) .z) .z))) .z) .z)) .z)))))
def F148 : Fn := { f := 148, a := an148, vars := [.cell 8 45, .tmp 9], ps := [.ro [(true, .tm), (true, .tm), (false, .bool)], .st .tm, .sc .int, .sc .bool], rs := [.st .tm, .sc .bool], own := false, fr := true, nt := 85, D := 5, loops := [2] }
def cs148 (s148 : (List Tm × List Tm × Bool × Unit) → Tm → Int → Bool → Option (Tm × Bool)) (n : Nat) : List Cal := [⟨113, [.sc .int, .sc .int], [.sc .int], true, fun a => f113 a.1 a.2.1⟩, ⟨148, [.ro [(true, .tm), (true, .tm), (false, .bool)], .st .tm, .sc .int, .sc .bool], [.st .tm, .sc .bool], true, fun a => s148 a.1 a.2.1 a.2.2.1 a.2.2.2.1⟩, ⟨151, [.ro [(true, .tm), (true, .tm), (false, .bool)], .sc .int, .sc .int, .sc .bool], [.st .tm, .sc .bool], true, fun a => f151 n a.1 a.2.1 a.2.2.1 a.2.2.2.1⟩]
def st148_1 (t0_0 : List Tm) (t0_1 : List Tm) (t0_2 : Bool) (t2 : Int) (t3 : Bool) (t5 : Tm) (t8_0 : Int) (t8_1 : Int) (t8_2 : Int) (t8_3 : Int) (t23 : Bool) : SS := ⟨[(0, .v (.one (.rc [.sl .tm t0_0, .sl .tm t0_1, .bool t0_2]))), (2, .v (.one (.c (.int t2) true))), (3, .v (.one (.c (.bool t3) true))), (5, .v (.one (.ptr 0 0))), (8, .v (.one (.ptr 1 0))), (23, .v (.one (.c (.bool t23) true)))], [(0, some (.bst .tm t5 false)), (1, some (.box [.c (.int t8_0) true, .c (.int t8_1) true, .c (.int t8_2) true, .c (.int t8_3) true, .nils]))], 2⟩
def st148_2 (t0_0 : List Tm) (t0_1 : List Tm) (t0_2 : Bool) (t2 : Int) (t3 : Bool) (t5 : Tm) (t8_0 : Int) (t8_1 : Int) (t8_2 : Int) (t8_3 : Int) (t10 : List Tm) (t45 : List Tm) (t46 : Int) (t47 : Int) : SS := ⟨[(0, .v (.one (.rc [.sl .tm t0_0, .sl .tm t0_1, .bool t0_2]))), (2, .v (.one (.c (.int t2) true))), (3, .v (.one (.c (.bool t3) true))), (5, .v (.one (.ptr 0 0))), (8, .v (.one (.ptr 1 0))), (10, .v (.one (.arr 2))), (45, .v (.one (.c (.sl .tm t45) false))), (46, .v (.one (.c (.int t46) true))), (47, .v (.one (.c (.int t47) true)))], [(0, some (.bst .tm t5 false)), (1, some (.box [.c (.int t8_0) true, .c (.int t8_1) true, .c (.int t8_2) true, .c (.int t8_3) true, .nils])), (2, some (.row 45 .tm t10 true))], 3⟩
def st148_3 (t0_0 : List Tm) (t0_1 : List Tm) (t0_2 : Bool) (t2 : Int) (t3 : Bool) (t5 : Tm) (t8_0 : Int) (t8_1 : Int) (t8_2 : Int) (t8_3 : Int) (t10 : List Tm) (t11 : Int) (t13 : Tm) (t14 : Bool) (t45 : List Tm) (t46 : Int) (t47 : Int) : SS := ⟨[(0, .v (.one (.rc [.sl .tm t0_0, .sl .tm t0_1, .bool t0_2]))), (2, .v (.one (.c (.int t2) true))), (3, .v (.one (.c (.bool t3) true))), (5, .v (.one (.ptr 0 0))), (8, .v (.one (.ptr 1 0))), (10, .v (.one (.arr 2))), (11, .v (.one (.c (.int t11) true))), (13, .v (.one (.ptr 3 0))), (14, .v (.one (.c (.bool t14) true))), (45, .v (.one (.c (.sl .tm t45) false))), (46, .v (.one (.c (.int t46) true))), (47, .v (.one (.c (.int t47) true)))], [(0, some (.bst .tm t5 false)), (1, some (.box [.c (.int t8_0) true, .c (.int t8_1) true, .c (.int t8_2) true, .c (.int t8_3) true, .nils])), (2, some (.row 45 .tm t10 true)), (3, some (.bst .tm t13 true))], 4⟩
theorem p148_0 (s148 : (List Tm × List Tm × Bool × Unit) → Tm → Int → Bool → Option (Tm × Bool)) (n : Nat) (lab : Nat → SS → Option (RT.den F148.rs)) (x : PTs.den F148.ps) : F148.body (bodyOf Try.f148) tabR tyR true (cs148 s148 n) lab x = o148_0 s148 n (fun t0_0 t0_1 t0_2 t2 t3 t5 t8_0 t8_1 t8_2 t8_3 t23 => lab 1 (st148_1 t0_0 t0_1 t0_2 t2 t3 t5 t8_0 t8_1 t8_2 t8_3 t23)) x.1 x.2.1 x.2.2.1 x.2.2.2.1 := by kernel_rfl
theorem p148_1 (s148 : (List Tm × List Tm × Bool × Unit) → Tm → Int → Bool → Option (Tm × Bool)) (n : Nat) (lab : Nat → SS → Option (RT.den F148.rs)) (t0_0 : List Tm) (t0_1 : List Tm) (t0_2 : Bool) (t2 : Int) (t3 : Bool) (t5 : Tm) (t8_0 : Int) (t8_1 : Int) (t8_2 : Int) (t8_3 : Int) (t23 : Bool) : F148.at (bodyOf Try.f148) tabR tyR true (cs148 s148 n) lab 1 (st148_1 t0_0 t0_1 t0_2 t2 t3 t5 t8_0 t8_1 t8_2 t8_3 t23) = o148_1 s148 n (fun t0_0 t0_1 t0_2 t2 t3 t5 t8_0 t8_1 t8_2 t8_3 t10 t45 t46 t47 => lab 2 (st148_2 t0_0 t0_1 t0_2 t2 t3 t5 t8_0 t8_1 t8_2 t8_3 t10 t45 t46 t47)) t0_0 t0_1 t0_2 t2 t3 t5 t8_0 t8_1 t8_2 t8_3 t23 := by kernel_rfl
theorem p148_2 (s148 : (List Tm × List Tm × Bool × Unit) → Tm → Int → Bool → Option (Tm × Bool)) (n : Nat) (lab : Nat → SS → Option (RT.den F148.rs)) (t0_0 : List Tm) (t0_1 : List Tm) (t0_2 : Bool) (t2 : Int) (t3 : Bool) (t5 : Tm) (t8_0 : Int) (t8_1 : Int) (t8_2 : Int) (t8_3 : Int) (t10 : List Tm) (t45 : List Tm) (t46 : Int) (t47 : Int) : F148.at (bodyOf Try.f148) tabR tyR true (cs148 s148 n) lab 2 (st148_2 t0_0 t0_1 t0_2 t2 t3 t5 t8_0 t8_1 t8_2 t8_3 t10 t45 t46 t47) = o148_2 s148 n (fun t0_0 t0_1 t0_2 t2 t3 t5 t8_0 t8_1 t8_2 t8_3 t10 t11 t13 t14 t45 t46 t47 => lab 3 (st148_3 t0_0 t0_1 t0_2 t2 t3 t5 t8_0 t8_1 t8_2 t8_3 t10 t11 t13 t14 t45 t46 t47)) t0_0 t0_1 t0_2 t2 t3 t5 t8_0 t8_1 t8_2 t8_3 t10 t45 t46 t47 := by kernel_rfl
theorem p148_3 (s148 : (List Tm × List Tm × Bool × Unit) → Tm → Int → Bool → Option (Tm × Bool)) (n : Nat) (lab : Nat → SS → Option (RT.den F148.rs)) (t0_0 : List Tm) (t0_1 : List Tm) (t0_2 : Bool) (t2 : Int) (t3 : Bool) (t5 : Tm) (t8_0 : Int) (t8_1 : Int) (t8_2 : Int) (t8_3 : Int) (t10 : List Tm) (t11 : Int) (t13 : Tm) (t14 : Bool) (t45 : List Tm) (t46 : Int) (t47 : Int) : F148.at (bodyOf Try.f148) tabR tyR true (cs148 s148 n) lab 3 (st148_3 t0_0 t0_1 t0_2 t2 t3 t5 t8_0 t8_1 t8_2 t8_3 t10 t11 t13 t14 t45 t46 t47) = o148_3 s148 n (fun t0_0 t0_1 t0_2 t2 t3 t5 t8_0 t8_1 t8_2 t8_3 t10 t45 t46 t47 => lab 2 (st148_2 t0_0 t0_1 t0_2 t2 t3 t5 t8_0 t8_1 t8_2 t8_3 t10 t45 t46 t47)) t0_0 t0_1 t0_2 t2 t3 t5 t8_0 t8_1 t8_2 t8_3 t10 t11 t13 t14 t45 t46 t47 := by kernel_rfl
theorem n148_1 (s148 : (List Tm × List Tm × Bool × Unit) → Tm → Int → Bool → Option (Tm × Bool)) (n : Nat) (rec : Nat → SS → Option (RT.den F148.rs)) (k2 : (List Tm) → (List Tm) → Bool → Int → Bool → Tm → Int → Int → Int → Int → (List Tm) → (List Tm) → Int → Int → Option (Tm × Bool)) (h2 : ∀ t0_0 t0_1 t0_2 t2 t3 t5 t8_0 t8_1 t8_2 t8_3 t10 t45 t46 t47, rec 2 (st148_2 t0_0 t0_1 t0_2 t2 t3 t5 t8_0 t8_1 t8_2 t8_3 t10 t45 t46 t47) = k2 t0_0 t0_1 t0_2 t2 t3 t5 t8_0 t8_1 t8_2 t8_3 t10 t45 t46 t47) (d : Nat) (t0_0 : List Tm) (t0_1 : List Tm) (t0_2 : Bool) (t2 : Int) (t3 : Bool) (t5 : Tm) (t8_0 : Int) (t8_1 : Int) (t8_2 : Int) (t8_3 : Int) (t23 : Bool) : F148.labD (bodyOf Try.f148) tabR tyR true (cs148 s148 n) rec (d + 1) 1 (st148_1 t0_0 t0_1 t0_2 t2 t3 t5 t8_0 t8_1 t8_2 t8_3 t23) = c148_1 s148 n k2 t0_0 t0_1 t0_2 t2 t3 t5 t8_0 t8_1 t8_2 t8_3 t23 := by
  have e2 : ∀ t0_0 t0_1 t0_2 t2 t3 t5 t8_0 t8_1 t8_2 t8_3 t10 t45 t46 t47, F148.labX (bodyOf Try.f148) tabR tyR true (cs148 s148 n) rec d 2 (st148_2 t0_0 t0_1 t0_2 t2 t3 t5 t8_0 t8_1 t8_2 t8_3 t10 t45 t46 t47) = k2 t0_0 t0_1 t0_2 t2 t3 t5 t8_0 t8_1 t8_2 t8_3 t10 t45 t46 t47 := fun t0_0 t0_1 t0_2 t2 t3 t5 t8_0 t8_1 t8_2 t8_3 t10 t45 t46 t47 => (Fn.labX_loop _ _ _ _ _ _ _ _ _ _ (by kernel_rfl)).trans (h2 t0_0 t0_1 t0_2 t2 t3 t5 t8_0 t8_1 t8_2 t8_3 t10 t45 t46 t47)
  show F148.labD (bodyOf Try.f148) tabR tyR true (cs148 s148 n) rec (d + 1) 1 _ = _
  rw [Fn.labD_succ, p148_1]
  simp only [e2]
  rfl
theorem n148_3 (s148 : (List Tm × List Tm × Bool × Unit) → Tm → Int → Bool → Option (Tm × Bool)) (n : Nat) (rec : Nat → SS → Option (RT.den F148.rs)) (k2 : (List Tm) → (List Tm) → Bool → Int → Bool → Tm → Int → Int → Int → Int → (List Tm) → (List Tm) → Int → Int → Option (Tm × Bool)) (h2 : ∀ t0_0 t0_1 t0_2 t2 t3 t5 t8_0 t8_1 t8_2 t8_3 t10 t45 t46 t47, rec 2 (st148_2 t0_0 t0_1 t0_2 t2 t3 t5 t8_0 t8_1 t8_2 t8_3 t10 t45 t46 t47) = k2 t0_0 t0_1 t0_2 t2 t3 t5 t8_0 t8_1 t8_2 t8_3 t10 t45 t46 t47) (d : Nat) (t0_0 : List Tm) (t0_1 : List Tm) (t0_2 : Bool) (t2 : Int) (t3 : Bool) (t5 : Tm) (t8_0 : Int) (t8_1 : Int) (t8_2 : Int) (t8_3 : Int) (t10 : List Tm) (t11 : Int) (t13 : Tm) (t14 : Bool) (t45 : List Tm) (t46 : Int) (t47 : Int) : F148.labD (bodyOf Try.f148) tabR tyR true (cs148 s148 n) rec (d + 1) 3 (st148_3 t0_0 t0_1 t0_2 t2 t3 t5 t8_0 t8_1 t8_2 t8_3 t10 t11 t13 t14 t45 t46 t47) = c148_3 s148 n k2 t0_0 t0_1 t0_2 t2 t3 t5 t8_0 t8_1 t8_2 t8_3 t10 t11 t13 t14 t45 t46 t47 := by
  have e2 : ∀ t0_0 t0_1 t0_2 t2 t3 t5 t8_0 t8_1 t8_2 t8_3 t10 t45 t46 t47, F148.labX (bodyOf Try.f148) tabR tyR true (cs148 s148 n) rec d 2 (st148_2 t0_0 t0_1 t0_2 t2 t3 t5 t8_0 t8_1 t8_2 t8_3 t10 t45 t46 t47) = k2 t0_0 t0_1 t0_2 t2 t3 t5 t8_0 t8_1 t8_2 t8_3 t10 t45 t46 t47 := fun t0_0 t0_1 t0_2 t2 t3 t5 t8_0 t8_1 t8_2 t8_3 t10 t45 t46 t47 => (Fn.labX_loop _ _ _ _ _ _ _ _ _ _ (by kernel_rfl)).trans (h2 t0_0 t0_1 t0_2 t2 t3 t5 t8_0 t8_1 t8_2 t8_3 t10 t45 t46 t47)
  show F148.labD (bodyOf Try.f148) tabR tyR true (cs148 s148 n) rec (d + 1) 3 _ = _
  rw [Fn.labD_succ, p148_3]
  simp only [e2]
  rfl
theorem m148_2 (s148 : (List Tm × List Tm × Bool × Unit) → Tm → Int → Bool → Option (Tm × Bool)) (n : Nat) : ∀ m : Nat, (∀ t0_0 t0_1 t0_2 t2 t3 t5 t8_0 t8_1 t8_2 t8_3 t10 t45 t46 t47, F148.labM (bodyOf Try.f148) tabR tyR true (cs148 s148 n) m 2 (st148_2 t0_0 t0_1 t0_2 t2 t3 t5 t8_0 t8_1 t8_2 t8_3 t10 t45 t46 t47) = l148_2 s148 n m t0_0 t0_1 t0_2 t2 t3 t5 t8_0 t8_1 t8_2 t8_3 t10 t45 t46 t47) := by
  intro m
  induction m with
  | zero => exact fun _ _ _ _ _ _ _ _ _ _ _ _ _ _ => rfl
  | succ m ih =>
    intro t0_0 t0_1 t0_2 t2 t3 t5 t8_0 t8_1 t8_2 t8_3 t10 t45 t46 t47
    have e3 : ∀ t0_0 t0_1 t0_2 t2 t3 t5 t8_0 t8_1 t8_2 t8_3 t10 t11 t13 t14 t45 t46 t47, F148.labX (bodyOf Try.f148) tabR tyR true (cs148 s148 n) (F148.labM (bodyOf Try.f148) tabR tyR true (cs148 s148 n) m) 4 3 (st148_3 t0_0 t0_1 t0_2 t2 t3 t5 t8_0 t8_1 t8_2 t8_3 t10 t11 t13 t14 t45 t46 t47) = c148_3 s148 n (l148_2 s148 n m) t0_0 t0_1 t0_2 t2 t3 t5 t8_0 t8_1 t8_2 t8_3 t10 t11 t13 t14 t45 t46 t47 := fun t0_0 t0_1 t0_2 t2 t3 t5 t8_0 t8_1 t8_2 t8_3 t10 t11 t13 t14 t45 t46 t47 => (Fn.labX_step _ _ _ _ _ _ _ _ _ _ (by kernel_rfl)).trans (n148_3 s148 n (F148.labM (bodyOf Try.f148) tabR tyR true (cs148 s148 n) m) (l148_2 s148 n m) ih 3 t0_0 t0_1 t0_2 t2 t3 t5 t8_0 t8_1 t8_2 t8_3 t10 t11 t13 t14 t45 t46 t47)
    rw [Fn.labM_succ]
    show F148.labD (bodyOf Try.f148) tabR tyR true (cs148 s148 n) (F148.labM (bodyOf Try.f148) tabR tyR true (cs148 s148 n) m) (4 + 1) 2 _ = _
    rw [Fn.labD_succ, p148_2]
    simp only [e3]
    rfl
theorem w148 (s148 : (List Tm × List Tm × Bool × Unit) → Tm → Int → Bool → Option (Tm × Bool)) (n : Nat) (x : PTs.den F148.ps) : F148.body (bodyOf Try.f148) tabR tyR true (cs148 s148 n) (F148.labX (bodyOf Try.f148) tabR tyR true (cs148 s148 n) (F148.labM (bodyOf Try.f148) tabR tyR true (cs148 s148 n) n) F148.D) x = o148_0 s148 n (c148_1 s148 n (l148_2 s148 n n)) x.1 x.2.1 x.2.2.1 x.2.2.2.1 := by
  have e1 : ∀ t0_0 t0_1 t0_2 t2 t3 t5 t8_0 t8_1 t8_2 t8_3 t23, F148.labX (bodyOf Try.f148) tabR tyR true (cs148 s148 n) (F148.labM (bodyOf Try.f148) tabR tyR true (cs148 s148 n) n) 5 1 (st148_1 t0_0 t0_1 t0_2 t2 t3 t5 t8_0 t8_1 t8_2 t8_3 t23) = c148_1 s148 n (l148_2 s148 n n) t0_0 t0_1 t0_2 t2 t3 t5 t8_0 t8_1 t8_2 t8_3 t23 := fun t0_0 t0_1 t0_2 t2 t3 t5 t8_0 t8_1 t8_2 t8_3 t23 => (Fn.labX_step _ _ _ _ _ _ _ _ _ _ (by kernel_rfl)).trans (n148_1 s148 n (F148.labM (bodyOf Try.f148) tabR tyR true (cs148 s148 n) n) (l148_2 s148 n n) (m148_2 s148 n n) 4 t0_0 t0_1 t0_2 t2 t3 t5 t8_0 t8_1 t8_2 t8_3 t23)
  show F148.body (bodyOf Try.f148) tabR tyR true (cs148 s148 n) (F148.labX (bodyOf Try.f148) tabR tyR true (cs148 s148 n) (F148.labM (bodyOf Try.f148) tabR tyR true (cs148 s148 n) n) 5) x = _
  rw [p148_0]
  simp only [e1]
  try rfl
theorem call148 : Callable Try.prog 148 := callable_of Try.func148 (by kernel_rfl) (by kernel_rfl)
theorem okr148 : ∀ n : Nat, Cal.Ok Try.prog ⟨148, F148.ps, F148.rs, F148.fr, fun a => f148 n a.1 a.2.1 a.2.2.1 a.2.2.2.1⟩
  | 0 => ⟨by kernel_rfl, fun a r h => by cases h⟩
  | n + 1 => cal_of_fn F148 (code := bodyOf Try.f148) Try.func148 (by kernel_rfl) (by kernel_rfl) call148 htabR (cs := cs148 (f148 n) n) (fun c hc => by
      simp only [cs148, List.mem_cons, List.not_mem_nil, or_false] at hc
      rcases hc with rfl | rfl | rfl
      · exact ok113
      · exact (okr148 n)
      · exact ok151 n) (fun _ => mixed) (by kernel_rfl) (by kernel_rfl) (by decide) (fun x => ⟨n, w148 (f148 n) n x⟩)
theorem ok148 (n : Nat) : Cal.Ok Try.prog ⟨148, F148.ps, F148.rs, F148.fr, fun a => f148 n a.1 a.2.1 a.2.2.1 a.2.2.2.1⟩ := (okr148 n)
-- tranship/subst.put
def o138_0 (n : Nat) (k1 : Tm → Int → Int → Int → Int → (List Tm) → (List Tm) → Bool → (List Tm) → Int → Int → Option (Tm × Bool)) (a0 : Tm) (a1 : List Tm) (a2 : Bool) : Option (Tm × Bool) :=
  k1 a0 (0 : Int) (0 : Int) (0 : Int) (0 : Int) a1 ([] : List Tm) a2 a1 (a1.length : Int) (0 : Int)
def o138_1 (n : Nat) (k2 : Tm → Int → Int → Int → Int → (List Tm) → (List Tm) → Bool → Tm → (List Tm) → Int → Int → Option (Tm × Bool)) (t3 : Tm) (t6_0 : Int) (t6_1 : Int) (t6_2 : Int) (t6_3 : Int) (t8_0 : List Tm) (t8_1 : List Tm) (t8_2 : Bool) (t15 : List Tm) (t16 : Int) (t17 : Int) : Option (Tm × Bool) :=
  if (decide (t17 < t16)) then
    atI t15 t17 fun x1 =>
    (f83 n x1).bind fun x2 =>
    if (!x2) then
      some ((Tm.mk (0 : Int) (0 : Int) (0 : Int) (0 : Int) ([] : List Tm)), false)
    else
      (f147 t3).bind fun x3 =>
      if (!x3) then
        if (decide ((13 : Int) ≤ x1.kind)) then
          some ((Tm.mk (0 : Int) (0 : Int) (0 : Int) (0 : Int) ([] : List Tm)), false)
        else
          k2 t3 t6_0 t6_1 t6_2 t6_3 t8_0 t8_1 t8_2 x1 t15 t16 t17
      else
        k2 t3 t6_0 t6_1 t6_2 t6_3 t8_0 t8_1 t8_2 x1 t15 t16 t17
  else
    (f148 n (t8_0, t8_1, t8_2, ()) t3 (0 : Int) (decide ((13 : Int) ≤ t3.kind))).bind fun x4 =>
    some (x4.1, x4.2)
def o138_2 (n : Nat) (k1 : Tm → Int → Int → Int → Int → (List Tm) → (List Tm) → Bool → (List Tm) → Int → Int → Option (Tm × Bool)) (t3 : Tm) (t6_0 : Int) (t6_1 : Int) (t6_2 : Int) (t6_3 : Int) (t8_0 : List Tm) (t8_1 : List Tm) (t8_2 : Bool) (t10 : Tm) (t15 : List Tm) (t16 : Int) (t17 : Int) : Option (Tm × Bool) :=
  (f79 n t10).bind fun x5 =>
  ckB (decide ((t8_1.length + [(Tm.mk (0 : Int) (0 : Int) (0 : Int) (0 : Int) ([] : List Tm))].length) * 56 ≤ 140737488355328) && decide (t8_1.length + [(Tm.mk (0 : Int) (0 : Int) (0 : Int) (0 : Int) ([] : List Tm))].length ≤ 9223372036854775807)) <|
  ckB (decide (0 ≤ (t8_1.length : Int)) && decide ((t8_1.length : Int) < (t8_1 ++ [(Tm.mk (0 : Int) (0 : Int) (0 : Int) (0 : Int) ([] : List Tm))]).length)) <|
  ckB (decide ((t8_1.length : Int).toNat < (t8_1 ++ [(Tm.mk (0 : Int) (0 : Int) (0 : Int) (0 : Int) ([] : List Tm))]).length)) <|
  ckI (t17 + (1 : Int)) <|
  k1 t3 t6_0 t6_1 t6_2 t6_3 t8_0 ((t8_1 ++ [(Tm.mk (0 : Int) (0 : Int) (0 : Int) (0 : Int) ([] : List Tm))]).set (t8_1.length : Int).toNat (Tm.mk x5.kind x5.i x5.j x5.n x5.kids)) t8_2 t15 t16 (t17 + (1 : Int))
def c138_2 (n : Nat) (k1 : Tm → Int → Int → Int → Int → (List Tm) → (List Tm) → Bool → (List Tm) → Int → Int → Option (Tm × Bool)) (t3 : Tm) (t6_0 : Int) (t6_1 : Int) (t6_2 : Int) (t6_3 : Int) (t8_0 : List Tm) (t8_1 : List Tm) (t8_2 : Bool) (t10 : Tm) (t15 : List Tm) (t16 : Int) (t17 : Int) : Option (Tm × Bool) :=
  o138_2 n k1 t3 t6_0 t6_1 t6_2 t6_3 t8_0 t8_1 t8_2 t10 t15 t16 t17
def l138_1 (n : Nat) : Nat → Tm → Int → Int → Int → Int → (List Tm) → (List Tm) → Bool → (List Tm) → Int → Int → Option (Tm × Bool)
  | 0, _, _, _, _, _, _, _, _, _, _, _ => none
  | m + 1, t3, t6_0, t6_1, t6_2, t6_3, t8_0, t8_1, t8_2, t15, t16, t17 => o138_1 n (c138_2 n (l138_1 n m)) t3 t6_0 t6_1 t6_2 t6_3 t8_0 t8_1 t8_2 t15 t16 t17
def f138 (n : Nat) (a0 : Tm) (a1 : List Tm) (a2 : Bool) : Option (Tm × Bool) := o138_0 n (l138_1 n n) a0 a1 a2
def an138 : An := (.n none [] 0 .z (.n none [] 0 .z (.n none [] 0 (.n none [] 0 .z (.n none [] 0 (.n (some 1) [(3, .ps 0 .tm false), (6, .p 1 [.c, .c, .c, .c, .k]), (8, .p 2 [.d .tm false, .r 3 45 .tm false, .c]), (15, .one (.d .tm false)), (16, .one .c), (17, .one .c)] 4 (.n none [] 0 .z (.n none [] 0 .z (.n none [] 0 (.n none [] 0 (.n none [] 0 .z (.n (some 2) [(3, .ps 0 .tm false), (6, .p 1 [.c, .c, .c, .c, .k]), (8, .p 2 [.d .tm false, .r 3 45 .tm false, .c]), (10, .ps 4 .tm false), (15, .one (.d .tm false)), (16, .one .c), (17, .one .c)] 5 .z .z)) .z) .z))) .z) .z)) .z)))
def F138 : Fn := { f := 138, a := an138, vars := [.cell 6 45, .tmp 7], ps := [.st .tm, .sl .tm, .sc .bool], rs := [.st .tm, .sc .bool], own := false, fr := true, nt := 56, D := 4, loops := [1] }
def cs138 (n : Nat) : List Cal := [⟨79, [.st .tm], [.st .tm], false, fun a => f79 n a.1⟩, ⟨83, [.st .tm], [.sc .bool], true, fun a => f83 n a.1⟩, ⟨147, [.st .tm], [.sc .bool], true, fun a => f147 a.1⟩, ⟨148, [.ro [(true, .tm), (true, .tm), (false, .bool)], .st .tm, .sc .int, .sc .bool], [.st .tm, .sc .bool], true, fun a => f148 n a.1 a.2.1 a.2.2.1 a.2.2.2.1⟩]
def st138_1 (t3 : Tm) (t6_0 : Int) (t6_1 : Int) (t6_2 : Int) (t6_3 : Int) (t8_0 : List Tm) (t8_1 : List Tm) (t8_2 : Bool) (t15 : List Tm) (t16 : Int) (t17 : Int) : SS := ⟨[(3, .v (.one (.ptr 0 0))), (6, .v (.one (.ptr 1 0))), (8, .v (.one (.ptr 2 0))), (15, .v (.one (.c (.sl .tm t15) false))), (16, .v (.one (.c (.int t16) true))), (17, .v (.one (.c (.int t17) true)))], [(0, some (.bst .tm t3 false)), (1, some (.box [.c (.int t6_0) true, .c (.int t6_1) true, .c (.int t6_2) true, .c (.int t6_3) true, .nils])), (2, some (.box [.c (.sl .tm t8_0) false, .arr 3, .c (.bool t8_2) true])), (3, some (.row 45 .tm t8_1 false))], 4⟩
def st138_2 (t3 : Tm) (t6_0 : Int) (t6_1 : Int) (t6_2 : Int) (t6_3 : Int) (t8_0 : List Tm) (t8_1 : List Tm) (t8_2 : Bool) (t10 : Tm) (t15 : List Tm) (t16 : Int) (t17 : Int) : SS := ⟨[(3, .v (.one (.ptr 0 0))), (6, .v (.one (.ptr 1 0))), (8, .v (.one (.ptr 2 0))), (10, .v (.one (.ptr 4 0))), (15, .v (.one (.c (.sl .tm t15) false))), (16, .v (.one (.c (.int t16) true))), (17, .v (.one (.c (.int t17) true)))], [(0, some (.bst .tm t3 false)), (1, some (.box [.c (.int t6_0) true, .c (.int t6_1) true, .c (.int t6_2) true, .c (.int t6_3) true, .nils])), (2, some (.box [.c (.sl .tm t8_0) false, .arr 3, .c (.bool t8_2) true])), (3, some (.row 45 .tm t8_1 false)), (4, some (.bst .tm t10 false))], 5⟩
theorem p138_0 (n : Nat) (lab : Nat → SS → Option (RT.den F138.rs)) (x : PTs.den F138.ps) : F138.body (bodyOf Try.f138) tabR tyR true (cs138 n) lab x = o138_0 n (fun t3 t6_0 t6_1 t6_2 t6_3 t8_0 t8_1 t8_2 t15 t16 t17 => lab 1 (st138_1 t3 t6_0 t6_1 t6_2 t6_3 t8_0 t8_1 t8_2 t15 t16 t17)) x.1 x.2.1 x.2.2.1 := by kernel_rfl
theorem p138_1 (n : Nat) (lab : Nat → SS → Option (RT.den F138.rs)) (t3 : Tm) (t6_0 : Int) (t6_1 : Int) (t6_2 : Int) (t6_3 : Int) (t8_0 : List Tm) (t8_1 : List Tm) (t8_2 : Bool) (t15 : List Tm) (t16 : Int) (t17 : Int) : F138.at (bodyOf Try.f138) tabR tyR true (cs138 n) lab 1 (st138_1 t3 t6_0 t6_1 t6_2 t6_3 t8_0 t8_1 t8_2 t15 t16 t17) = o138_1 n (fun t3 t6_0 t6_1 t6_2 t6_3 t8_0 t8_1 t8_2 t10 t15 t16 t17 => lab 2 (st138_2 t3 t6_0 t6_1 t6_2 t6_3 t8_0 t8_1 t8_2 t10 t15 t16 t17)) t3 t6_0 t6_1 t6_2 t6_3 t8_0 t8_1 t8_2 t15 t16 t17 := by kernel_rfl
theorem p138_2 (n : Nat) (lab : Nat → SS → Option (RT.den F138.rs)) (t3 : Tm) (t6_0 : Int) (t6_1 : Int) (t6_2 : Int) (t6_3 : Int) (t8_0 : List Tm) (t8_1 : List Tm) (t8_2 : Bool) (t10 : Tm) (t15 : List Tm) (t16 : Int) (t17 : Int) : F138.at (bodyOf Try.f138) tabR tyR true (cs138 n) lab 2 (st138_2 t3 t6_0 t6_1 t6_2 t6_3 t8_0 t8_1 t8_2 t10 t15 t16 t17) = o138_2 n (fun t3 t6_0 t6_1 t6_2 t6_3 t8_0 t8_1 t8_2 t15 t16 t17 => lab 1 (st138_1 t3 t6_0 t6_1 t6_2 t6_3 t8_0 t8_1 t8_2 t15 t16 t17)) t3 t6_0 t6_1 t6_2 t6_3 t8_0 t8_1 t8_2 t10 t15 t16 t17 := by kernel_rfl
theorem n138_2 (n : Nat) (rec : Nat → SS → Option (RT.den F138.rs)) (k1 : Tm → Int → Int → Int → Int → (List Tm) → (List Tm) → Bool → (List Tm) → Int → Int → Option (Tm × Bool)) (h1 : ∀ t3 t6_0 t6_1 t6_2 t6_3 t8_0 t8_1 t8_2 t15 t16 t17, rec 1 (st138_1 t3 t6_0 t6_1 t6_2 t6_3 t8_0 t8_1 t8_2 t15 t16 t17) = k1 t3 t6_0 t6_1 t6_2 t6_3 t8_0 t8_1 t8_2 t15 t16 t17) (d : Nat) (t3 : Tm) (t6_0 : Int) (t6_1 : Int) (t6_2 : Int) (t6_3 : Int) (t8_0 : List Tm) (t8_1 : List Tm) (t8_2 : Bool) (t10 : Tm) (t15 : List Tm) (t16 : Int) (t17 : Int) : F138.labD (bodyOf Try.f138) tabR tyR true (cs138 n) rec (d + 1) 2 (st138_2 t3 t6_0 t6_1 t6_2 t6_3 t8_0 t8_1 t8_2 t10 t15 t16 t17) = c138_2 n k1 t3 t6_0 t6_1 t6_2 t6_3 t8_0 t8_1 t8_2 t10 t15 t16 t17 := by
  have e1 : ∀ t3 t6_0 t6_1 t6_2 t6_3 t8_0 t8_1 t8_2 t15 t16 t17, F138.labX (bodyOf Try.f138) tabR tyR true (cs138 n) rec d 1 (st138_1 t3 t6_0 t6_1 t6_2 t6_3 t8_0 t8_1 t8_2 t15 t16 t17) = k1 t3 t6_0 t6_1 t6_2 t6_3 t8_0 t8_1 t8_2 t15 t16 t17 := fun t3 t6_0 t6_1 t6_2 t6_3 t8_0 t8_1 t8_2 t15 t16 t17 => (Fn.labX_loop _ _ _ _ _ _ _ _ _ _ (by kernel_rfl)).trans (h1 t3 t6_0 t6_1 t6_2 t6_3 t8_0 t8_1 t8_2 t15 t16 t17)
  show F138.labD (bodyOf Try.f138) tabR tyR true (cs138 n) rec (d + 1) 2 _ = _
  rw [Fn.labD_succ, p138_2]
  simp only [e1]
  rfl
theorem m138_1 (n : Nat) : ∀ m : Nat, (∀ t3 t6_0 t6_1 t6_2 t6_3 t8_0 t8_1 t8_2 t15 t16 t17, F138.labM (bodyOf Try.f138) tabR tyR true (cs138 n) m 1 (st138_1 t3 t6_0 t6_1 t6_2 t6_3 t8_0 t8_1 t8_2 t15 t16 t17) = l138_1 n m t3 t6_0 t6_1 t6_2 t6_3 t8_0 t8_1 t8_2 t15 t16 t17) := by
  intro m
  induction m with
  | zero => exact fun _ _ _ _ _ _ _ _ _ _ _ => rfl
  | succ m ih =>
    intro t3 t6_0 t6_1 t6_2 t6_3 t8_0 t8_1 t8_2 t15 t16 t17
    have e2 : ∀ t3 t6_0 t6_1 t6_2 t6_3 t8_0 t8_1 t8_2 t10 t15 t16 t17, F138.labX (bodyOf Try.f138) tabR tyR true (cs138 n) (F138.labM (bodyOf Try.f138) tabR tyR true (cs138 n) m) 3 2 (st138_2 t3 t6_0 t6_1 t6_2 t6_3 t8_0 t8_1 t8_2 t10 t15 t16 t17) = c138_2 n (l138_1 n m) t3 t6_0 t6_1 t6_2 t6_3 t8_0 t8_1 t8_2 t10 t15 t16 t17 := fun t3 t6_0 t6_1 t6_2 t6_3 t8_0 t8_1 t8_2 t10 t15 t16 t17 => (Fn.labX_step _ _ _ _ _ _ _ _ _ _ (by kernel_rfl)).trans (n138_2 n (F138.labM (bodyOf Try.f138) tabR tyR true (cs138 n) m) (l138_1 n m) ih 2 t3 t6_0 t6_1 t6_2 t6_3 t8_0 t8_1 t8_2 t10 t15 t16 t17)
    rw [Fn.labM_succ]
    show F138.labD (bodyOf Try.f138) tabR tyR true (cs138 n) (F138.labM (bodyOf Try.f138) tabR tyR true (cs138 n) m) (3 + 1) 1 _ = _
    rw [Fn.labD_succ, p138_1]
    simp only [e2]
    rfl
theorem w138 (n : Nat) (x : PTs.den F138.ps) : F138.body (bodyOf Try.f138) tabR tyR true (cs138 n) (F138.labX (bodyOf Try.f138) tabR tyR true (cs138 n) (F138.labM (bodyOf Try.f138) tabR tyR true (cs138 n) n) F138.D) x = o138_0 n (l138_1 n n) x.1 x.2.1 x.2.2.1 := by
  have e1 : ∀ t3 t6_0 t6_1 t6_2 t6_3 t8_0 t8_1 t8_2 t15 t16 t17, F138.labX (bodyOf Try.f138) tabR tyR true (cs138 n) (F138.labM (bodyOf Try.f138) tabR tyR true (cs138 n) n) 4 1 (st138_1 t3 t6_0 t6_1 t6_2 t6_3 t8_0 t8_1 t8_2 t15 t16 t17) = (l138_1 n n) t3 t6_0 t6_1 t6_2 t6_3 t8_0 t8_1 t8_2 t15 t16 t17 := fun t3 t6_0 t6_1 t6_2 t6_3 t8_0 t8_1 t8_2 t15 t16 t17 => (Fn.labX_loop _ _ _ _ _ _ _ _ _ _ (by kernel_rfl)).trans ((m138_1 n n) t3 t6_0 t6_1 t6_2 t6_3 t8_0 t8_1 t8_2 t15 t16 t17)
  show F138.body (bodyOf Try.f138) tabR tyR true (cs138 n) (F138.labX (bodyOf Try.f138) tabR tyR true (cs138 n) (F138.labM (bodyOf Try.f138) tabR tyR true (cs138 n) n) 4) x = _
  rw [p138_0]
  simp only [e1]
  try rfl
theorem call138 : Callable Try.prog 138 := callable_of Try.func138 (by kernel_rfl) (by kernel_rfl)
theorem ok138 (n : Nat) : Cal.Ok Try.prog ⟨138, F138.ps, F138.rs, F138.fr, fun a => f138 n a.1 a.2.1 a.2.2.1⟩ :=
  cal_of_fn F138 (code := bodyOf Try.f138) Try.func138 (by kernel_rfl) (by kernel_rfl) call138 htabR (cs := cs138 n) (fun c hc => by
      simp only [cs138, List.mem_cons, List.not_mem_nil, or_false] at hc
      rcases hc with rfl | rfl | rfl | rfl
      · exact ok79 n
      · exact ok83 n
      · exact ok147
      · exact ok148 n) (fun _ => mixed) (by kernel_rfl) (by kernel_rfl) (by decide) (fun x => ⟨n, w138 n x⟩)
-- tranship/subst.Put
def o97_0 (n : Nat) (a0 : Tm) (a1 : Tm) : Option Tm :=
  (f83 n a0).bind fun x1 =>
  if (!x1) then
    some (Tm.mk (0 : Int) (0 : Int) (0 : Int) (0 : Int) ([] : List Tm))
  else
    (f138 n a0 [(Tm.mk a1.kind a1.i a1.j a1.n a1.kids)] true).bind fun x2 =>
    if (!x2.2) then
      some (Tm.mk (0 : Int) (0 : Int) (0 : Int) (0 : Int) ([] : List Tm))
    else
      some x2.1
def f97 (n : Nat) (a0 : Tm) (a1 : Tm) : Option Tm := o97_0 n a0 a1
def an97 : An := .z
def F97 : Fn := { f := 97, a := an97, vars := [.cell 4 45], ps := [.st .tm, .st .tm], rs := [.st .tm], own := false, fr := true, nt := 22, D := 2, loops := [] }
def cs97 (n : Nat) : List Cal := [⟨83, [.st .tm], [.sc .bool], true, fun a => f83 n a.1⟩, ⟨138, [.st .tm, .sl .tm, .sc .bool], [.st .tm, .sc .bool], true, fun a => f138 n a.1 a.2.1 a.2.2.1⟩]
theorem p97_0 (n : Nat) (lab : Nat → SS → Option (RT.den F97.rs)) (x : PTs.den F97.ps) : F97.body (bodyOf Try.f97) tabR tyR true (cs97 n) lab x = o97_0 n x.1 x.2.1 := by kernel_rfl
theorem w97 (n : Nat) (x : PTs.den F97.ps) : F97.body (bodyOf Try.f97) tabR tyR true (cs97 n) (F97.labX (bodyOf Try.f97) tabR tyR true (cs97 n) (F97.labM (bodyOf Try.f97) tabR tyR true (cs97 n) 0) F97.D) x = o97_0 n x.1 x.2.1 := by
  show F97.body (bodyOf Try.f97) tabR tyR true (cs97 n) (F97.labX (bodyOf Try.f97) tabR tyR true (cs97 n) (F97.labM (bodyOf Try.f97) tabR tyR true (cs97 n) 0) 2) x = _
  rw [p97_0]
theorem call97 : Callable Try.prog 97 := callable_of Try.func97 (by kernel_rfl) (by kernel_rfl)
theorem ok97 (n : Nat) : Cal.Ok Try.prog ⟨97, F97.ps, F97.rs, F97.fr, fun a => f97 n a.1 a.2.1⟩ :=
  cal_of_fn F97 (code := bodyOf Try.f97) Try.func97 (by kernel_rfl) (by kernel_rfl) call97 htabR (cs := cs97 n) (fun c hc => by
      simp only [cs97, List.mem_cons, List.not_mem_nil, or_false] at hc
      rcases hc with rfl | rfl
      · exact ok83 n
      · exact ok138 n) (fun _ => mixed) (by kernel_rfl) (by kernel_rfl) (by decide) (fun x => ⟨0, w97 n x⟩)
-- tranship/subst.All
def o101_0 (n : Nat) (a0 : Tm) (a1 : List Tm) : Option (Tm × Bool) :=
  (f83 n a0).bind fun x1 =>
  if (!x1) then
    some ((Tm.mk (0 : Int) (0 : Int) (0 : Int) (0 : Int) ([] : List Tm)), false)
  else
    (f138 n a0 a1 false).bind fun x2 =>
    some (x2.1, x2.2)
def f101 (n : Nat) (a0 : Tm) (a1 : List Tm) : Option (Tm × Bool) := o101_0 n a0 a1
def an101 : An := .z
def F101 : Fn := { f := 101, a := an101, vars := [.cell 4 45, .tmp 5], ps := [.st .tm, .sl .tm], rs := [.st .tm, .sc .bool], own := false, fr := true, nt := 15, D := 2, loops := [] }
def cs101 (n : Nat) : List Cal := [⟨83, [.st .tm], [.sc .bool], true, fun a => f83 n a.1⟩, ⟨138, [.st .tm, .sl .tm, .sc .bool], [.st .tm, .sc .bool], true, fun a => f138 n a.1 a.2.1 a.2.2.1⟩]
theorem p101_0 (n : Nat) (lab : Nat → SS → Option (RT.den F101.rs)) (x : PTs.den F101.ps) : F101.body (bodyOf Try.f101) tabR tyR true (cs101 n) lab x = o101_0 n x.1 x.2.1 := by kernel_rfl
theorem w101 (n : Nat) (x : PTs.den F101.ps) : F101.body (bodyOf Try.f101) tabR tyR true (cs101 n) (F101.labX (bodyOf Try.f101) tabR tyR true (cs101 n) (F101.labM (bodyOf Try.f101) tabR tyR true (cs101 n) 0) F101.D) x = o101_0 n x.1 x.2.1 := by
  show F101.body (bodyOf Try.f101) tabR tyR true (cs101 n) (F101.labX (bodyOf Try.f101) tabR tyR true (cs101 n) (F101.labM (bodyOf Try.f101) tabR tyR true (cs101 n) 0) 2) x = _
  rw [p101_0]
theorem call101 : Callable Try.prog 101 := callable_of Try.func101 (by kernel_rfl) (by kernel_rfl)
theorem ok101 (n : Nat) : Cal.Ok Try.prog ⟨101, F101.ps, F101.rs, F101.fr, fun a => f101 n a.1 a.2.1⟩ :=
  cal_of_fn F101 (code := bodyOf Try.f101) Try.func101 (by kernel_rfl) (by kernel_rfl) call101 htabR (cs := cs101 n) (fun c hc => by
      simp only [cs101, List.mem_cons, List.not_mem_nil, or_false] at hc
      rcases hc with rfl | rfl
      · exact ok83 n
      · exact ok138 n) (fun _ => mixed) (by kernel_rfl) (by kernel_rfl) (by decide) (fun x => ⟨0, w101 n x⟩)
-- tranship/transhipref04.all
def o139_0 (s139 : Tm → (List Tm) → Int → Bool → Option (Tm × Bool)) (n : Nat) (k1 : (List Tm) → Int → Bool → Tm → Int → Int → Int → Int → Bool → Option (Tm × Bool)) (a0 : Tm) (a1 : List Tm) (a2 : Int) (a3 : Bool) : Option (Tm × Bool) :=
  if (decide (a0.kind = (2 : Int))) then
    k1 a1 a2 a3 a0 (0 : Int) (0 : Int) (0 : Int) (0 : Int) (decide (a2 ≤ a0.i))
  else
    k1 a1 a2 a3 a0 (0 : Int) (0 : Int) (0 : Int) (0 : Int) false
def o139_1 (s139 : Tm → (List Tm) → Int → Bool → Option (Tm × Bool)) (n : Nat) (k2 : (List Tm) → Int → Bool → Tm → Int → Int → Int → Int → Int → Int → Int → Int → (List Tm) → Int → Option (Tm × Bool)) (t1 : List Tm) (t2 : Int) (t3 : Bool) (t4 : Tm) (t8_0 : Int) (t8_1 : Int) (t8_2 : Int) (t8_3 : Int) (t23 : Bool) : Option (Tm × Bool) :=
  if t23 then
    ckI (t4.i - t2) <|
    atI t1 (t4.i - t2) fun x1 =>
    (f145 n x1 t2 t3).bind fun x2 =>
    some (x2.1, x2.2)
  else
    k2 t1 t2 t3 t4 t8_0 t8_1 t8_2 t8_3 t4.kind t4.i t4.j t4.n ([] : List Tm) (0 : Int)
def o139_2 (s139 : Tm → (List Tm) → Int → Bool → Option (Tm × Bool)) (n : Nat) (k3 : (List Tm) → Int → Bool → Tm → Int → Int → Int → Int → Int → Int → Int → Int → (List Tm) → Int → Tm → Bool → Option (Tm × Bool)) (t1 : List Tm) (t2 : Int) (t3 : Bool) (t4 : Tm) (t8_0 : Int) (t8_1 : Int) (t8_2 : Int) (t8_3 : Int) (t10_0 : Int) (t10_1 : Int) (t10_2 : Int) (t10_3 : Int) (t11 : List Tm) (t12 : Int) : Option (Tm × Bool) :=
  if (decide (t12 < (t4.kids.length : Int))) then
    atI t4.kids t12 fun x3 =>
    (f60 t4.kind t12).bind fun x4 =>
    ckI (t2 + x4) <|
    if t3 then
      (s139 x3 t1 (t2 + x4) true).bind fun x5 =>
      k3 t1 t2 t3 t4 t8_0 t8_1 t8_2 t8_3 t10_0 t10_1 t10_2 t10_3 t11 t12 x5.1 x5.2
    else
      (f146 t4 t12).bind fun x6 =>
      (s139 x3 t1 (t2 + x4) x6).bind fun x7 =>
      k3 t1 t2 t3 t4 t8_0 t8_1 t8_2 t8_3 t10_0 t10_1 t10_2 t10_3 t11 t12 x7.1 x7.2
  else
    some ((Tm.mk t10_0 t10_1 t10_2 t10_3 t11), true)
def o139_3 (s139 : Tm → (List Tm) → Int → Bool → Option (Tm × Bool)) (n : Nat) (k2 : (List Tm) → Int → Bool → Tm → Int → Int → Int → Int → Int → Int → Int → Int → (List Tm) → Int → Option (Tm × Bool)) (t1 : List Tm) (t2 : Int) (t3 : Bool) (t4 : Tm) (t8_0 : Int) (t8_1 : Int) (t8_2 : Int) (t8_3 : Int) (t10_0 : Int) (t10_1 : Int) (t10_2 : Int) (t10_3 : Int) (t11 : List Tm) (t12 : Int) (t13 : Tm) (t14 : Bool) : Option (Tm × Bool) :=
  if (!t14) then
    some ((Tm.mk (0 : Int) (0 : Int) (0 : Int) (0 : Int) ([] : List Tm)), false)
  else
    ckB (decide ((t11.length + [(Tm.mk t13.kind t13.i t13.j t13.n t13.kids)].length) * 56 ≤ 140737488355328) && decide (t11.length + [(Tm.mk t13.kind t13.i t13.j t13.n t13.kids)].length ≤ 9223372036854775807)) <|
    ckI (t12 + (1 : Int)) <|
    k2 t1 t2 t3 t4 t8_0 t8_1 t8_2 t8_3 t10_0 t10_1 t10_2 t10_3 (t11 ++ [(Tm.mk t13.kind t13.i t13.j t13.n t13.kids)]) (t12 + (1 : Int))
def c139_1 (s139 : Tm → (List Tm) → Int → Bool → Option (Tm × Bool)) (n : Nat) (k2 : (List Tm) → Int → Bool → Tm → Int → Int → Int → Int → Int → Int → Int → Int → (List Tm) → Int → Option (Tm × Bool)) (t1 : List Tm) (t2 : Int) (t3 : Bool) (t4 : Tm) (t8_0 : Int) (t8_1 : Int) (t8_2 : Int) (t8_3 : Int) (t23 : Bool) : Option (Tm × Bool) :=
  o139_1 s139 n k2 t1 t2 t3 t4 t8_0 t8_1 t8_2 t8_3 t23
def c139_3 (s139 : Tm → (List Tm) → Int → Bool → Option (Tm × Bool)) (n : Nat) (k2 : (List Tm) → Int → Bool → Tm → Int → Int → Int → Int → Int → Int → Int → Int → (List Tm) → Int → Option (Tm × Bool)) (t1 : List Tm) (t2 : Int) (t3 : Bool) (t4 : Tm) (t8_0 : Int) (t8_1 : Int) (t8_2 : Int) (t8_3 : Int) (t10_0 : Int) (t10_1 : Int) (t10_2 : Int) (t10_3 : Int) (t11 : List Tm) (t12 : Int) (t13 : Tm) (t14 : Bool) : Option (Tm × Bool) :=
  o139_3 s139 n k2 t1 t2 t3 t4 t8_0 t8_1 t8_2 t8_3 t10_0 t10_1 t10_2 t10_3 t11 t12 t13 t14
def l139_2 (s139 : Tm → (List Tm) → Int → Bool → Option (Tm × Bool)) (n : Nat) : Nat → (List Tm) → Int → Bool → Tm → Int → Int → Int → Int → Int → Int → Int → Int → (List Tm) → Int → Option (Tm × Bool)
  | 0, _, _, _, _, _, _, _, _, _, _, _, _, _, _ => none
  | m + 1, t1, t2, t3, t4, t8_0, t8_1, t8_2, t8_3, t10_0, t10_1, t10_2, t10_3, t11, t12 => o139_2 s139 n (c139_3 s139 n (l139_2 s139 n m)) t1 t2 t3 t4 t8_0 t8_1 t8_2 t8_3 t10_0 t10_1 t10_2 t10_3 t11 t12
def f139 : Nat → Tm → (List Tm) → Int → Bool → Option (Tm × Bool)
  | 0, _, _, _, _ => none
  | n + 1, a0, a1, a2, a3 => o139_0 (f139 n) n (c139_1 (f139 n) n (l139_2 (f139 n) n n)) a0 a1 a2 a3
def an139 : An := (.n none [] 0 .z (.n none [] 0 (.n (some 1) [(1, .one (.d .tm false)), (2, .one .c), (3, .one .c), (4, .ps 0 .tm false), (8, .p 1 [.c, .c, .c, .c, .k]), (23, .one .c)] 2 .z .z) (.n none [] 0 .z (.n none [] 0 .z (.n none [] 0 (.n none [] 0 .z (.n none [] 0 (.n (some 2) [(1, .one (.d .tm false)), (2, .one .c), (3, .one .c), (4, .ps 0 .tm false), (8, .p 1 [.c, .c, .c, .c, .k]), (10, .p 2 [.c, .c, .c, .c, .k]), (11, .one (.r 3 45 .tm true)), (12, .one .c)] 4 (.n none [] 0 .z (.n none [] 0 (.n none [] 0 (.n (some 3) [(1, .one (.d .tm false)), (2, .one .c), (3, .one .c), (4, .ps 0 .tm false), (8, .p 1 [.c, .c, .c, .c, .k]), (10, .p 2 [.c, .c, .c, .c, .k]), (11, .one (.r 3 45 .tm true)), (12, .one .c), (13, .ps 4 .tm true), (14, .one .c)] 5 .z .z) .z) .z)) .z) .z)) .z)))))
def F139 : Fn := { f := 139, a := an139, vars := [.cell 8 45, .tmp 9], ps := [.st .tm, .sl .tm, .sc .int, .sc .bool], rs := [.st .tm, .sc .bool], own := false, fr := true, nt := 84, D := 5, loops := [2] }
def cs139 (s139 : Tm → (List Tm) → Int → Bool → Option (Tm × Bool)) (n : Nat) : List Cal := [⟨60, [.sc .int, .sc .int], [.sc .int], true, fun a => f60 a.1 a.2.1⟩, ⟨139, [.st .tm, .sl .tm, .sc .int, .sc .bool], [.st .tm, .sc .bool], true, fun a => s139 a.1 a.2.1 a.2.2.1 a.2.2.2.1⟩, ⟨145, [.st .tm, .sc .int, .sc .bool], [.st .tm, .sc .bool], true, fun a => f145 n a.1 a.2.1 a.2.2.1⟩, ⟨146, [.st .tm, .sc .int], [.sc .bool], true, fun a => f146 a.1 a.2.1⟩]
def st139_1 (t1 : List Tm) (t2 : Int) (t3 : Bool) (t4 : Tm) (t8_0 : Int) (t8_1 : Int) (t8_2 : Int) (t8_3 : Int) (t23 : Bool) : SS := ⟨[(1, .v (.one (.c (.sl .tm t1) false))), (2, .v (.one (.c (.int t2) true))), (3, .v (.one (.c (.bool t3) true))), (4, .v (.one (.ptr 0 0))), (8, .v (.one (.ptr 1 0))), (23, .v (.one (.c (.bool t23) true)))], [(0, some (.bst .tm t4 false)), (1, some (.box [.c (.int t8_0) true, .c (.int t8_1) true, .c (.int t8_2) true, .c (.int t8_3) true, .nils]))], 2⟩
def st139_2 (t1 : List Tm) (t2 : Int) (t3 : Bool) (t4 : Tm) (t8_0 : Int) (t8_1 : Int) (t8_2 : Int) (t8_3 : Int) (t10_0 : Int) (t10_1 : Int) (t10_2 : Int) (t10_3 : Int) (t11 : List Tm) (t12 : Int) : SS := ⟨[(1, .v (.one (.c (.sl .tm t1) false))), (2, .v (.one (.c (.int t2) true))), (3, .v (.one (.c (.bool t3) true))), (4, .v (.one (.ptr 0 0))), (8, .v (.one (.ptr 1 0))), (10, .v (.one (.ptr 2 0))), (11, .v (.one (.arr 3))), (12, .v (.one (.c (.int t12) true)))], [(0, some (.bst .tm t4 false)), (1, some (.box [.c (.int t8_0) true, .c (.int t8_1) true, .c (.int t8_2) true, .c (.int t8_3) true, .nils])), (2, some (.box [.c (.int t10_0) true, .c (.int t10_1) true, .c (.int t10_2) true, .c (.int t10_3) true, .nils])), (3, some (.row 45 .tm t11 true))], 4⟩
def st139_3 (t1 : List Tm) (t2 : Int) (t3 : Bool) (t4 : Tm) (t8_0 : Int) (t8_1 : Int) (t8_2 : Int) (t8_3 : Int) (t10_0 : Int) (t10_1 : Int) (t10_2 : Int) (t10_3 : Int) (t11 : List Tm) (t12 : Int) (t13 : Tm) (t14 : Bool) : SS := ⟨[(1, .v (.one (.c (.sl .tm t1) false))), (2, .v (.one (.c (.int t2) true))), (3, .v (.one (.c (.bool t3) true))), (4, .v (.one (.ptr 0 0))), (8, .v (.one (.ptr 1 0))), (10, .v (.one (.ptr 2 0))), (11, .v (.one (.arr 3))), (12, .v (.one (.c (.int t12) true))), (13, .v (.one (.ptr 4 0))), (14, .v (.one (.c (.bool t14) true)))], [(0, some (.bst .tm t4 false)), (1, some (.box [.c (.int t8_0) true, .c (.int t8_1) true, .c (.int t8_2) true, .c (.int t8_3) true, .nils])), (2, some (.box [.c (.int t10_0) true, .c (.int t10_1) true, .c (.int t10_2) true, .c (.int t10_3) true, .nils])), (3, some (.row 45 .tm t11 true)), (4, some (.bst .tm t13 true))], 5⟩
theorem p139_0 (s139 : Tm → (List Tm) → Int → Bool → Option (Tm × Bool)) (n : Nat) (lab : Nat → SS → Option (RT.den F139.rs)) (x : PTs.den F139.ps) : F139.body (bodyOf Try.f139) tabR tyR true (cs139 s139 n) lab x = o139_0 s139 n (fun t1 t2 t3 t4 t8_0 t8_1 t8_2 t8_3 t23 => lab 1 (st139_1 t1 t2 t3 t4 t8_0 t8_1 t8_2 t8_3 t23)) x.1 x.2.1 x.2.2.1 x.2.2.2.1 := by kernel_rfl
theorem p139_1 (s139 : Tm → (List Tm) → Int → Bool → Option (Tm × Bool)) (n : Nat) (lab : Nat → SS → Option (RT.den F139.rs)) (t1 : List Tm) (t2 : Int) (t3 : Bool) (t4 : Tm) (t8_0 : Int) (t8_1 : Int) (t8_2 : Int) (t8_3 : Int) (t23 : Bool) : F139.at (bodyOf Try.f139) tabR tyR true (cs139 s139 n) lab 1 (st139_1 t1 t2 t3 t4 t8_0 t8_1 t8_2 t8_3 t23) = o139_1 s139 n (fun t1 t2 t3 t4 t8_0 t8_1 t8_2 t8_3 t10_0 t10_1 t10_2 t10_3 t11 t12 => lab 2 (st139_2 t1 t2 t3 t4 t8_0 t8_1 t8_2 t8_3 t10_0 t10_1 t10_2 t10_3 t11 t12)) t1 t2 t3 t4 t8_0 t8_1 t8_2 t8_3 t23 := by kernel_rfl
theorem p139_2 (s139 : Tm → (List Tm) → Int → Bool → Option (Tm × Bool)) (n : Nat) (lab : Nat → SS → Option (RT.den F139.rs)) (t1 : List Tm) (t2 : Int) (t3 : Bool) (t4 : Tm) (t8_0 : Int) (t8_1 : Int) (t8_2 : Int) (t8_3 : Int) (t10_0 : Int) (t10_1 : Int) (t10_2 : Int) (t10_3 : Int) (t11 : List Tm) (t12 : Int) : F139.at (bodyOf Try.f139) tabR tyR true (cs139 s139 n) lab 2 (st139_2 t1 t2 t3 t4 t8_0 t8_1 t8_2 t8_3 t10_0 t10_1 t10_2 t10_3 t11 t12) = o139_2 s139 n (fun t1 t2 t3 t4 t8_0 t8_1 t8_2 t8_3 t10_0 t10_1 t10_2 t10_3 t11 t12 t13 t14 => lab 3 (st139_3 t1 t2 t3 t4 t8_0 t8_1 t8_2 t8_3 t10_0 t10_1 t10_2 t10_3 t11 t12 t13 t14)) t1 t2 t3 t4 t8_0 t8_1 t8_2 t8_3 t10_0 t10_1 t10_2 t10_3 t11 t12 := by kernel_rfl
theorem p139_3 (s139 : Tm → (List Tm) → Int → Bool → Option (Tm × Bool)) (n : Nat) (lab : Nat → SS → Option (RT.den F139.rs)) (t1 : List Tm) (t2 : Int) (t3 : Bool) (t4 : Tm) (t8_0 : Int) (t8_1 : Int) (t8_2 : Int) (t8_3 : Int) (t10_0 : Int) (t10_1 : Int) (t10_2 : Int) (t10_3 : Int) (t11 : List Tm) (t12 : Int) (t13 : Tm) (t14 : Bool) : F139.at (bodyOf Try.f139) tabR tyR true (cs139 s139 n) lab 3 (st139_3 t1 t2 t3 t4 t8_0 t8_1 t8_2 t8_3 t10_0 t10_1 t10_2 t10_3 t11 t12 t13 t14) = o139_3 s139 n (fun t1 t2 t3 t4 t8_0 t8_1 t8_2 t8_3 t10_0 t10_1 t10_2 t10_3 t11 t12 => lab 2 (st139_2 t1 t2 t3 t4 t8_0 t8_1 t8_2 t8_3 t10_0 t10_1 t10_2 t10_3 t11 t12)) t1 t2 t3 t4 t8_0 t8_1 t8_2 t8_3 t10_0 t10_1 t10_2 t10_3 t11 t12 t13 t14 := by kernel_rfl
theorem n139_1 (s139 : Tm → (List Tm) → Int → Bool → Option (Tm × Bool)) (n : Nat) (rec : Nat → SS → Option (RT.den F139.rs)) (k2 : (List Tm) → Int → Bool → Tm → Int → Int → Int → Int → Int → Int → Int → Int → (List Tm) → Int → Option (Tm × Bool)) (h2 : ∀ t1 t2 t3 t4 t8_0 t8_1 t8_2 t8_3 t10_0 t10_1 t10_2 t10_3 t11 t12, rec 2 (st139_2 t1 t2 t3 t4 t8_0 t8_1 t8_2 t8_3 t10_0 t10_1 t10_2 t10_3 t11 t12) = k2 t1 t2 t3 t4 t8_0 t8_1 t8_2 t8_3 t10_0 t10_1 t10_2 t10_3 t11 t12) (d : Nat) (t1 : List Tm) (t2 : Int) (t3 : Bool) (t4 : Tm) (t8_0 : Int) (t8_1 : Int) (t8_2 : Int) (t8_3 : Int) (t23 : Bool) : F139.labD (bodyOf Try.f139) tabR tyR true (cs139 s139 n) rec (d + 1) 1 (st139_1 t1 t2 t3 t4 t8_0 t8_1 t8_2 t8_3 t23) = c139_1 s139 n k2 t1 t2 t3 t4 t8_0 t8_1 t8_2 t8_3 t23 := by
  have e2 : ∀ t1 t2 t3 t4 t8_0 t8_1 t8_2 t8_3 t10_0 t10_1 t10_2 t10_3 t11 t12, F139.labX (bodyOf Try.f139) tabR tyR true (cs139 s139 n) rec d 2 (st139_2 t1 t2 t3 t4 t8_0 t8_1 t8_2 t8_3 t10_0 t10_1 t10_2 t10_3 t11 t12) = k2 t1 t2 t3 t4 t8_0 t8_1 t8_2 t8_3 t10_0 t10_1 t10_2 t10_3 t11 t12 := fun t1 t2 t3 t4 t8_0 t8_1 t8_2 t8_3 t10_0 t10_1 t10_2 t10_3 t11 t12 => (Fn.labX_loop _ _ _ _ _ _ _ _ _ _ (by kernel_rfl)).trans (h2 t1 t2 t3 t4 t8_0 t8_1 t8_2 t8_3 t10_0 t10_1 t10_2 t10_3 t11 t12)
  show F139.labD (bodyOf Try.f139) tabR tyR true (cs139 s139 n) rec (d + 1) 1 _ = _
  rw [Fn.labD_succ, p139_1]
  simp only [e2]
  rfl
theorem n139_3 (s139 : Tm → (List Tm) → Int → Bool → Option (Tm × Bool)) (n : Nat) (rec : Nat → SS → Option (RT.den F139.rs)) (k2 : (List Tm) → Int → Bool → Tm → Int → Int → Int → Int → Int → Int → Int → Int → (List Tm) → Int → Option (Tm × Bool)) (h2 : ∀ t1 t2 t3 t4 t8_0 t8_1 t8_2 t8_3 t10_0 t10_1 t10_2 t10_3 t11 t12, rec 2 (st139_2 t1 t2 t3 t4 t8_0 t8_1 t8_2 t8_3 t10_0 t10_1 t10_2 t10_3 t11 t12) = k2 t1 t2 t3 t4 t8_0 t8_1 t8_2 t8_3 t10_0 t10_1 t10_2 t10_3 t11 t12) (d : Nat) (t1 : List Tm) (t2 : Int) (t3 : Bool) (t4 : Tm) (t8_0 : Int) (t8_1 : Int) (t8_2 : Int) (t8_3 : Int) (t10_0 : Int) (t10_1 : Int) (t10_2 : Int) (t10_3 : Int) (t11 : List Tm) (t12 : Int) (t13 : Tm) (t14 : Bool) : F139.labD (bodyOf Try.f139) tabR tyR true (cs139 s139 n) rec (d + 1) 3 (st139_3 t1 t2 t3 t4 t8_0 t8_1 t8_2 t8_3 t10_0 t10_1 t10_2 t10_3 t11 t12 t13 t14) = c139_3 s139 n k2 t1 t2 t3 t4 t8_0 t8_1 t8_2 t8_3 t10_0 t10_1 t10_2 t10_3 t11 t12 t13 t14 := by
  have e2 : ∀ t1 t2 t3 t4 t8_0 t8_1 t8_2 t8_3 t10_0 t10_1 t10_2 t10_3 t11 t12, F139.labX (bodyOf Try.f139) tabR tyR true (cs139 s139 n) rec d 2 (st139_2 t1 t2 t3 t4 t8_0 t8_1 t8_2 t8_3 t10_0 t10_1 t10_2 t10_3 t11 t12) = k2 t1 t2 t3 t4 t8_0 t8_1 t8_2 t8_3 t10_0 t10_1 t10_2 t10_3 t11 t12 := fun t1 t2 t3 t4 t8_0 t8_1 t8_2 t8_3 t10_0 t10_1 t10_2 t10_3 t11 t12 => (Fn.labX_loop _ _ _ _ _ _ _ _ _ _ (by kernel_rfl)).trans (h2 t1 t2 t3 t4 t8_0 t8_1 t8_2 t8_3 t10_0 t10_1 t10_2 t10_3 t11 t12)
  show F139.labD (bodyOf Try.f139) tabR tyR true (cs139 s139 n) rec (d + 1) 3 _ = _
  rw [Fn.labD_succ, p139_3]
  simp only [e2]
  rfl
theorem m139_2 (s139 : Tm → (List Tm) → Int → Bool → Option (Tm × Bool)) (n : Nat) : ∀ m : Nat, (∀ t1 t2 t3 t4 t8_0 t8_1 t8_2 t8_3 t10_0 t10_1 t10_2 t10_3 t11 t12, F139.labM (bodyOf Try.f139) tabR tyR true (cs139 s139 n) m 2 (st139_2 t1 t2 t3 t4 t8_0 t8_1 t8_2 t8_3 t10_0 t10_1 t10_2 t10_3 t11 t12) = l139_2 s139 n m t1 t2 t3 t4 t8_0 t8_1 t8_2 t8_3 t10_0 t10_1 t10_2 t10_3 t11 t12) := by
  intro m
  induction m with
  | zero => exact fun _ _ _ _ _ _ _ _ _ _ _ _ _ _ => rfl
  | succ m ih =>
    intro t1 t2 t3 t4 t8_0 t8_1 t8_2 t8_3 t10_0 t10_1 t10_2 t10_3 t11 t12
    have e3 : ∀ t1 t2 t3 t4 t8_0 t8_1 t8_2 t8_3 t10_0 t10_1 t10_2 t10_3 t11 t12 t13 t14, F139.labX (bodyOf Try.f139) tabR tyR true (cs139 s139 n) (F139.labM (bodyOf Try.f139) tabR tyR true (cs139 s139 n) m) 4 3 (st139_3 t1 t2 t3 t4 t8_0 t8_1 t8_2 t8_3 t10_0 t10_1 t10_2 t10_3 t11 t12 t13 t14) = c139_3 s139 n (l139_2 s139 n m) t1 t2 t3 t4 t8_0 t8_1 t8_2 t8_3 t10_0 t10_1 t10_2 t10_3 t11 t12 t13 t14 := fun t1 t2 t3 t4 t8_0 t8_1 t8_2 t8_3 t10_0 t10_1 t10_2 t10_3 t11 t12 t13 t14 => (Fn.labX_step _ _ _ _ _ _ _ _ _ _ (by kernel_rfl)).trans (n139_3 s139 n (F139.labM (bodyOf Try.f139) tabR tyR true (cs139 s139 n) m) (l139_2 s139 n m) ih 3 t1 t2 t3 t4 t8_0 t8_1 t8_2 t8_3 t10_0 t10_1 t10_2 t10_3 t11 t12 t13 t14)
    rw [Fn.labM_succ]
    show F139.labD (bodyOf Try.f139) tabR tyR true (cs139 s139 n) (F139.labM (bodyOf Try.f139) tabR tyR true (cs139 s139 n) m) (4 + 1) 2 _ = _
    rw [Fn.labD_succ, p139_2]
    simp only [e3]
    rfl
theorem w139 (s139 : Tm → (List Tm) → Int → Bool → Option (Tm × Bool)) (n : Nat) (x : PTs.den F139.ps) : F139.body (bodyOf Try.f139) tabR tyR true (cs139 s139 n) (F139.labX (bodyOf Try.f139) tabR tyR true (cs139 s139 n) (F139.labM (bodyOf Try.f139) tabR tyR true (cs139 s139 n) n) F139.D) x = o139_0 s139 n (c139_1 s139 n (l139_2 s139 n n)) x.1 x.2.1 x.2.2.1 x.2.2.2.1 := by
  have e1 : ∀ t1 t2 t3 t4 t8_0 t8_1 t8_2 t8_3 t23, F139.labX (bodyOf Try.f139) tabR tyR true (cs139 s139 n) (F139.labM (bodyOf Try.f139) tabR tyR true (cs139 s139 n) n) 5 1 (st139_1 t1 t2 t3 t4 t8_0 t8_1 t8_2 t8_3 t23) = c139_1 s139 n (l139_2 s139 n n) t1 t2 t3 t4 t8_0 t8_1 t8_2 t8_3 t23 := fun t1 t2 t3 t4 t8_0 t8_1 t8_2 t8_3 t23 => (Fn.labX_step _ _ _ _ _ _ _ _ _ _ (by kernel_rfl)).trans (n139_1 s139 n (F139.labM (bodyOf Try.f139) tabR tyR true (cs139 s139 n) n) (l139_2 s139 n n) (m139_2 s139 n n) 4 t1 t2 t3 t4 t8_0 t8_1 t8_2 t8_3 t23)
  show F139.body (bodyOf Try.f139) tabR tyR true (cs139 s139 n) (F139.labX (bodyOf Try.f139) tabR tyR true (cs139 s139 n) (F139.labM (bodyOf Try.f139) tabR tyR true (cs139 s139 n) n) 5) x = _
  rw [p139_0]
  simp only [e1]
  try rfl
theorem call139 : Callable Try.prog 139 := callable_of Try.func139 (by kernel_rfl) (by kernel_rfl)
theorem okr139 : ∀ n : Nat, Cal.Ok Try.prog ⟨139, F139.ps, F139.rs, F139.fr, fun a => f139 n a.1 a.2.1 a.2.2.1 a.2.2.2.1⟩
  | 0 => ⟨by kernel_rfl, fun a r h => by cases h⟩
  | n + 1 => cal_of_fn F139 (code := bodyOf Try.f139) Try.func139 (by kernel_rfl) (by kernel_rfl) call139 htabR (cs := cs139 (f139 n) n) (fun c hc => by
      simp only [cs139, List.mem_cons, List.not_mem_nil, or_false] at hc
      rcases hc with rfl | rfl | rfl | rfl
      · exact ok60
      · exact (okr139 n)
      · exact ok145 n
      · exact ok146) (fun _ => mixed) (by kernel_rfl) (by kernel_rfl) (by decide) (fun x => ⟨n, w139 (f139 n) n x⟩)
theorem ok139 (n : Nat) : Cal.Ok Try.prog ⟨139, F139.ps, F139.rs, F139.fr, fun a => f139 n a.1 a.2.1 a.2.2.1 a.2.2.2.1⟩ := (okr139 n)
-- tranship/transhipref04.All
def o102_0 (n : Nat) (k1 : (List Tm) → Tm → Int → Int → Int → Int → Option (Tm × Bool)) (a0 : Tm) (a1 : List Tm) : Option (Tm × Bool) :=
  (f81 n a0).bind fun x1 =>
  if (!x1) then
    some ((Tm.mk (0 : Int) (0 : Int) (0 : Int) (0 : Int) ([] : List Tm)), false)
  else
    (f127 n a0).bind fun x2 =>
    if (decide ((a1.length : Int) < x2)) then
      some ((Tm.mk (0 : Int) (0 : Int) (0 : Int) (0 : Int) ([] : List Tm)), false)
    else
      k1 a1 a0 (0 : Int) (0 : Int) (0 : Int) (0 : Int)
def o102_1 (n : Nat) (k2 : (List Tm) → Tm → Int → Int → Int → Int → Int → Option (Tm × Bool)) (t1 : List Tm) (t2 : Tm) (t4_0 : Int) (t4_1 : Int) (t4_2 : Int) (t4_3 : Int) : Option (Tm × Bool) :=
  k2 t1 t2 t4_0 t4_1 t4_2 t4_3 (0 : Int)
def o102_2 (n : Nat) (k2 : (List Tm) → Tm → Int → Int → Int → Int → Int → Option (Tm × Bool)) (t1 : List Tm) (t2 : Tm) (t4_0 : Int) (t4_1 : Int) (t4_2 : Int) (t4_3 : Int) (t6 : Int) : Option (Tm × Bool) :=
  if (decide (t6 < (t1.length : Int))) then
    atI t1 t6 fun x3 =>
    (f136 n t2 x3).bind fun x4 =>
    if (!x4) then
      some ((Tm.mk (0 : Int) (0 : Int) (0 : Int) (0 : Int) ([] : List Tm)), false)
    else
      ckI (t6 + (1 : Int)) <|
      k2 t1 t2 t4_0 t4_1 t4_2 t4_3 (t6 + (1 : Int))
  else
    (f139 n t2 t1 (0 : Int) false).bind fun x5 =>
    if (!x5.2) then
      some ((Tm.mk (0 : Int) (0 : Int) (0 : Int) (0 : Int) ([] : List Tm)), false)
    else
      some (x5.1, true)
def c102_1 (n : Nat) (k2 : (List Tm) → Tm → Int → Int → Int → Int → Int → Option (Tm × Bool)) (t1 : List Tm) (t2 : Tm) (t4_0 : Int) (t4_1 : Int) (t4_2 : Int) (t4_3 : Int) : Option (Tm × Bool) :=
  o102_1 n k2 t1 t2 t4_0 t4_1 t4_2 t4_3
def l102_2 (n : Nat) : Nat → (List Tm) → Tm → Int → Int → Int → Int → Int → Option (Tm × Bool)
  | 0, _, _, _, _, _, _, _ => none
  | m + 1, t1, t2, t4_0, t4_1, t4_2, t4_3, t6 => o102_2 n (l102_2 n m) t1 t2 t4_0 t4_1 t4_2 t4_3 t6
def f102 (n : Nat) (a0 : Tm) (a1 : List Tm) : Option (Tm × Bool) := o102_0 n (c102_1 n (l102_2 n n)) a0 a1
def an102 : An := (.n none [] 0 .z (.n (some 1) [(1, .one (.d .tm false)), (2, .ps 0 .tm false), (4, .p 1 [.c, .c, .c, .c, .k])] 2 .z (.n none [] 0 (.n none [] 0 .z (.n none [] 0 (.n (some 2) [(1, .one (.d .tm false)), (2, .ps 0 .tm false), (4, .p 1 [.c, .c, .c, .c, .k]), (6, .one .c)] 2 .z .z) .z)) .z)))
def F102 : Fn := { f := 102, a := an102, vars := [.cell 4 45, .tmp 5], ps := [.st .tm, .sl .tm], rs := [.st .tm, .sc .bool], own := false, fr := true, nt := 44, D := 4, loops := [2] }
def cs102 (n : Nat) : List Cal := [⟨81, [.st .tm], [.sc .bool], true, fun a => f81 n a.1⟩, ⟨127, [.st .tm], [.sc .int], true, fun a => f127 n a.1⟩, ⟨136, [.st .tm, .st .tm], [.sc .bool], true, fun a => f136 n a.1 a.2.1⟩, ⟨139, [.st .tm, .sl .tm, .sc .int, .sc .bool], [.st .tm, .sc .bool], true, fun a => f139 n a.1 a.2.1 a.2.2.1 a.2.2.2.1⟩]
def st102_1 (t1 : List Tm) (t2 : Tm) (t4_0 : Int) (t4_1 : Int) (t4_2 : Int) (t4_3 : Int) : SS := ⟨[(1, .v (.one (.c (.sl .tm t1) false))), (2, .v (.one (.ptr 0 0))), (4, .v (.one (.ptr 1 0)))], [(0, some (.bst .tm t2 false)), (1, some (.box [.c (.int t4_0) true, .c (.int t4_1) true, .c (.int t4_2) true, .c (.int t4_3) true, .nils]))], 2⟩
def st102_2 (t1 : List Tm) (t2 : Tm) (t4_0 : Int) (t4_1 : Int) (t4_2 : Int) (t4_3 : Int) (t6 : Int) : SS := ⟨[(1, .v (.one (.c (.sl .tm t1) false))), (2, .v (.one (.ptr 0 0))), (4, .v (.one (.ptr 1 0))), (6, .v (.one (.c (.int t6) true)))], [(0, some (.bst .tm t2 false)), (1, some (.box [.c (.int t4_0) true, .c (.int t4_1) true, .c (.int t4_2) true, .c (.int t4_3) true, .nils]))], 2⟩
theorem p102_0 (n : Nat) (lab : Nat → SS → Option (RT.den F102.rs)) (x : PTs.den F102.ps) : F102.body (bodyOf Try.f102) tabR tyR true (cs102 n) lab x = o102_0 n (fun t1 t2 t4_0 t4_1 t4_2 t4_3 => lab 1 (st102_1 t1 t2 t4_0 t4_1 t4_2 t4_3)) x.1 x.2.1 := by kernel_rfl
theorem p102_1 (n : Nat) (lab : Nat → SS → Option (RT.den F102.rs)) (t1 : List Tm) (t2 : Tm) (t4_0 : Int) (t4_1 : Int) (t4_2 : Int) (t4_3 : Int) : F102.at (bodyOf Try.f102) tabR tyR true (cs102 n) lab 1 (st102_1 t1 t2 t4_0 t4_1 t4_2 t4_3) = o102_1 n (fun t1 t2 t4_0 t4_1 t4_2 t4_3 t6 => lab 2 (st102_2 t1 t2 t4_0 t4_1 t4_2 t4_3 t6)) t1 t2 t4_0 t4_1 t4_2 t4_3 := by kernel_rfl
theorem p102_2 (n : Nat) (lab : Nat → SS → Option (RT.den F102.rs)) (t1 : List Tm) (t2 : Tm) (t4_0 : Int) (t4_1 : Int) (t4_2 : Int) (t4_3 : Int) (t6 : Int) : F102.at (bodyOf Try.f102) tabR tyR true (cs102 n) lab 2 (st102_2 t1 t2 t4_0 t4_1 t4_2 t4_3 t6) = o102_2 n (fun t1 t2 t4_0 t4_1 t4_2 t4_3 t6 => lab 2 (st102_2 t1 t2 t4_0 t4_1 t4_2 t4_3 t6)) t1 t2 t4_0 t4_1 t4_2 t4_3 t6 := by kernel_rfl
theorem n102_1 (n : Nat) (rec : Nat → SS → Option (RT.den F102.rs)) (k2 : (List Tm) → Tm → Int → Int → Int → Int → Int → Option (Tm × Bool)) (h2 : ∀ t1 t2 t4_0 t4_1 t4_2 t4_3 t6, rec 2 (st102_2 t1 t2 t4_0 t4_1 t4_2 t4_3 t6) = k2 t1 t2 t4_0 t4_1 t4_2 t4_3 t6) (d : Nat) (t1 : List Tm) (t2 : Tm) (t4_0 : Int) (t4_1 : Int) (t4_2 : Int) (t4_3 : Int) : F102.labD (bodyOf Try.f102) tabR tyR true (cs102 n) rec (d + 1) 1 (st102_1 t1 t2 t4_0 t4_1 t4_2 t4_3) = c102_1 n k2 t1 t2 t4_0 t4_1 t4_2 t4_3 := by
  have e2 : ∀ t1 t2 t4_0 t4_1 t4_2 t4_3 t6, F102.labX (bodyOf Try.f102) tabR tyR true (cs102 n) rec d 2 (st102_2 t1 t2 t4_0 t4_1 t4_2 t4_3 t6) = k2 t1 t2 t4_0 t4_1 t4_2 t4_3 t6 := fun t1 t2 t4_0 t4_1 t4_2 t4_3 t6 => (Fn.labX_loop _ _ _ _ _ _ _ _ _ _ (by kernel_rfl)).trans (h2 t1 t2 t4_0 t4_1 t4_2 t4_3 t6)
  show F102.labD (bodyOf Try.f102) tabR tyR true (cs102 n) rec (d + 1) 1 _ = _
  rw [Fn.labD_succ, p102_1]
  simp only [e2]
  rfl
theorem m102_2 (n : Nat) : ∀ m : Nat, (∀ t1 t2 t4_0 t4_1 t4_2 t4_3 t6, F102.labM (bodyOf Try.f102) tabR tyR true (cs102 n) m 2 (st102_2 t1 t2 t4_0 t4_1 t4_2 t4_3 t6) = l102_2 n m t1 t2 t4_0 t4_1 t4_2 t4_3 t6) := by
  intro m
  induction m with
  | zero => exact fun _ _ _ _ _ _ _ => rfl
  | succ m ih =>
    intro t1 t2 t4_0 t4_1 t4_2 t4_3 t6
    have e2 : ∀ t1 t2 t4_0 t4_1 t4_2 t4_3 t6, F102.labX (bodyOf Try.f102) tabR tyR true (cs102 n) (F102.labM (bodyOf Try.f102) tabR tyR true (cs102 n) m) 3 2 (st102_2 t1 t2 t4_0 t4_1 t4_2 t4_3 t6) = (l102_2 n m) t1 t2 t4_0 t4_1 t4_2 t4_3 t6 := fun t1 t2 t4_0 t4_1 t4_2 t4_3 t6 => (Fn.labX_loop _ _ _ _ _ _ _ _ _ _ (by kernel_rfl)).trans (ih t1 t2 t4_0 t4_1 t4_2 t4_3 t6)
    rw [Fn.labM_succ]
    show F102.labD (bodyOf Try.f102) tabR tyR true (cs102 n) (F102.labM (bodyOf Try.f102) tabR tyR true (cs102 n) m) (3 + 1) 2 _ = _
    rw [Fn.labD_succ, p102_2]
    simp only [e2]
    rfl
theorem w102 (n : Nat) (x : PTs.den F102.ps) : F102.body (bodyOf Try.f102) tabR tyR true (cs102 n) (F102.labX (bodyOf Try.f102) tabR tyR true (cs102 n) (F102.labM (bodyOf Try.f102) tabR tyR true (cs102 n) n) F102.D) x = o102_0 n (c102_1 n (l102_2 n n)) x.1 x.2.1 := by
  have e1 : ∀ t1 t2 t4_0 t4_1 t4_2 t4_3, F102.labX (bodyOf Try.f102) tabR tyR true (cs102 n) (F102.labM (bodyOf Try.f102) tabR tyR true (cs102 n) n) 4 1 (st102_1 t1 t2 t4_0 t4_1 t4_2 t4_3) = c102_1 n (l102_2 n n) t1 t2 t4_0 t4_1 t4_2 t4_3 := fun t1 t2 t4_0 t4_1 t4_2 t4_3 => (Fn.labX_step _ _ _ _ _ _ _ _ _ _ (by kernel_rfl)).trans (n102_1 n (F102.labM (bodyOf Try.f102) tabR tyR true (cs102 n) n) (l102_2 n n) (m102_2 n n) 3 t1 t2 t4_0 t4_1 t4_2 t4_3)
  show F102.body (bodyOf Try.f102) tabR tyR true (cs102 n) (F102.labX (bodyOf Try.f102) tabR tyR true (cs102 n) (F102.labM (bodyOf Try.f102) tabR tyR true (cs102 n) n) 4) x = _
  rw [p102_0]
  simp only [e1]
  try rfl
theorem call102 : Callable Try.prog 102 := callable_of Try.func102 (by kernel_rfl) (by kernel_rfl)
theorem ok102 (n : Nat) : Cal.Ok Try.prog ⟨102, F102.ps, F102.rs, F102.fr, fun a => f102 n a.1 a.2.1⟩ :=
  cal_of_fn F102 (code := bodyOf Try.f102) Try.func102 (by kernel_rfl) (by kernel_rfl) call102 htabR (cs := cs102 n) (fun c hc => by
      simp only [cs102, List.mem_cons, List.not_mem_nil, or_false] at hc
      rcases hc with rfl | rfl | rfl | rfl
      · exact ok81 n
      · exact ok127 n
      · exact ok136 n
      · exact ok139 n) (fun _ => mixed) (by kernel_rfl) (by kernel_rfl) (by decide) (fun x => ⟨n, w102 n x⟩)
end Go.Proofs.Yteaglcbnkephgaa
