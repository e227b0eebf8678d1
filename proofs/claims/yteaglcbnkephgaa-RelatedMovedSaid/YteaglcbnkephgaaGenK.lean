/-
  What the functions on terms and their copies compute, as plain functions.
-/
import Derived.Test.YteaglcbnkephgaaTypedB
set_option linter.unusedSimpArgs false
set_option linter.unusedVariables false
namespace Go.Proofs.Yteaglcbnkephgaa
open Go Go.RowKit
set_option maxRecDepth 100000
-- tranship/term.takes
def o112_0 (k1 : Int → Bool → Option Int) (a0 : Int) : Option Int :=
  if (decide (a0 = (3 : Int))) then
    k1 a0 (decide (a0 = (3 : Int)))
  else
    if (decide (a0 = (5 : Int))) then
      k1 a0 (decide (a0 = (5 : Int)))
    else
      if (decide (a0 = (6 : Int))) then
        k1 a0 (decide (a0 = (6 : Int)))
      else
        if (decide (a0 = (8 : Int))) then
          k1 a0 (decide (a0 = (8 : Int)))
        else
          if (decide (a0 = (10 : Int))) then
            k1 a0 (decide (a0 = (10 : Int)))
          else
            k1 a0 (decide (a0 = (11 : Int)))
def o112_1 (k2 : Int → Bool → Option Int) (t3 : Int) (t4 : Bool) : Option Int :=
  if t4 then
    some (4 : Int)
  else
    if (decide (t3 = (1 : Int))) then
      k2 t3 (decide (t3 = (1 : Int)))
    else
      if (decide (t3 = (2 : Int))) then
        k2 t3 (decide (t3 = (2 : Int)))
      else
        if (decide (t3 = (7 : Int))) then
          k2 t3 (decide (t3 = (7 : Int)))
        else
          k2 t3 (decide (t3 = (9 : Int)))
def o112_2 (k3 : Int → Bool → Option Int) (t3 : Int) (t11 : Bool) : Option Int :=
  if t11 then
    some (5 : Int)
  else
    if (decide (t3 = (4 : Int))) then
      k3 t3 (decide (t3 = (4 : Int)))
    else
      if (decide (t3 = (12 : Int))) then
        k3 t3 (decide (t3 = (12 : Int)))
      else
        if (decide (t3 = (13 : Int))) then
          k3 t3 (decide (t3 = (13 : Int)))
        else
          if (decide (t3 = (14 : Int))) then
            k3 t3 (decide (t3 = (14 : Int)))
          else
            k3 t3 (decide (t3 = (21 : Int)))
def o112_3 (k4 : Int → Bool → Option Int) (t3 : Int) (t16 : Bool) : Option Int :=
  if t16 then
    some (6 : Int)
  else
    if (decide (t3 = (15 : Int))) then
      k4 t3 (decide (t3 = (15 : Int)))
    else
      if (decide (t3 = (18 : Int))) then
        k4 t3 (decide (t3 = (18 : Int)))
      else
        if (decide (t3 = (19 : Int))) then
          k4 t3 (decide (t3 = (19 : Int)))
        else
          k4 t3 (decide (t3 = (20 : Int)))
def o112_4 (t3 : Int) (t22 : Bool) : Option Int :=
  if t22 then
    some (9 : Int)
  else
    if (decide (t3 = (16 : Int))) then
      if (decide (t3 = (16 : Int))) then
        some (12 : Int)
      else
        some (-1 : Int)
    else
      if (decide (t3 = (17 : Int))) then
        some (12 : Int)
      else
        some (-1 : Int)
def c112_4 (t3 : Int) (t22 : Bool) : Option Int :=
  o112_4 t3 t22
def c112_3 (t3 : Int) (t16 : Bool) : Option Int :=
  o112_3 (c112_4) t3 t16
def c112_2 (t3 : Int) (t11 : Bool) : Option Int :=
  o112_2 (c112_3) t3 t11
def c112_1 (t3 : Int) (t4 : Bool) : Option Int :=
  o112_1 (c112_2) t3 t4
def f112 (a0 : Int) : Option Int := o112_0 (c112_1) a0
def an112 : An := (.n none [] 0 .z (.n none [] 0 (.n none [] 0 .z (.n none [] 0 (.n (some 1) [(3, .one .c), (4, .one .c)] 0 .z (.n none [] 0 .z (.n (some 2) [(3, .one .c), (11, .one .c)] 0 .z (.n none [] 0 .z (.n (some 3) [(3, .one .c), (16, .one .c)] 0 .z (.n none [] 0 .z (.n (some 4) [(3, .one .c), (22, .one .c)] 0 .z .z))))))) .z)) .z))
def F112 : Fn := { f := 112, a := an112, vars := [.tmp 2], ps := [.sc .int], rs := [.sc .int], own := false, fr := true, nt := 30, D := 6, loops := [] }
def cs112 : List Cal := []
def st112_1 (t3 : Int) (t4 : Bool) : SS := ⟨[(3, .v (.one (.c (.int t3) true))), (4, .v (.one (.c (.bool t4) true)))], [], 0⟩
def st112_2 (t3 : Int) (t11 : Bool) : SS := ⟨[(3, .v (.one (.c (.int t3) true))), (11, .v (.one (.c (.bool t11) true)))], [], 0⟩
def st112_3 (t3 : Int) (t16 : Bool) : SS := ⟨[(3, .v (.one (.c (.int t3) true))), (16, .v (.one (.c (.bool t16) true)))], [], 0⟩
def st112_4 (t3 : Int) (t22 : Bool) : SS := ⟨[(3, .v (.one (.c (.int t3) true))), (22, .v (.one (.c (.bool t22) true)))], [], 0⟩
theorem p112_0 (lab : Nat → SS → Option (RT.den F112.rs)) (x : PTs.den F112.ps) : F112.body (bodyOf Try.f112) tabR tyR true cs112 lab x = o112_0 (fun t3 t4 => lab 1 (st112_1 t3 t4)) x.1 := by kernel_rfl
theorem p112_1 (lab : Nat → SS → Option (RT.den F112.rs)) (t3 : Int) (t4 : Bool) : F112.at (bodyOf Try.f112) tabR tyR true cs112 lab 1 (st112_1 t3 t4) = o112_1 (fun t3 t11 => lab 2 (st112_2 t3 t11)) t3 t4 := by kernel_rfl
theorem p112_2 (lab : Nat → SS → Option (RT.den F112.rs)) (t3 : Int) (t11 : Bool) : F112.at (bodyOf Try.f112) tabR tyR true cs112 lab 2 (st112_2 t3 t11) = o112_2 (fun t3 t16 => lab 3 (st112_3 t3 t16)) t3 t11 := by kernel_rfl
theorem p112_3 (lab : Nat → SS → Option (RT.den F112.rs)) (t3 : Int) (t16 : Bool) : F112.at (bodyOf Try.f112) tabR tyR true cs112 lab 3 (st112_3 t3 t16) = o112_3 (fun t3 t22 => lab 4 (st112_4 t3 t22)) t3 t16 := by kernel_rfl
theorem p112_4 (lab : Nat → SS → Option (RT.den F112.rs)) (t3 : Int) (t22 : Bool) : F112.at (bodyOf Try.f112) tabR tyR true cs112 lab 4 (st112_4 t3 t22) = o112_4 t3 t22 := by kernel_rfl
theorem n112_4 (rec : Nat → SS → Option (RT.den F112.rs)) (d : Nat) (t3 : Int) (t22 : Bool) : F112.labD (bodyOf Try.f112) tabR tyR true cs112 rec (d + 1) 4 (st112_4 t3 t22) = c112_4 t3 t22 := by
  show F112.labD (bodyOf Try.f112) tabR tyR true cs112 rec (d + 1) 4 _ = _
  rw [Fn.labD_succ, p112_4]
  rfl
theorem n112_3 (rec : Nat → SS → Option (RT.den F112.rs)) (d : Nat) (t3 : Int) (t16 : Bool) : F112.labD (bodyOf Try.f112) tabR tyR true cs112 rec (d + 2) 3 (st112_3 t3 t16) = c112_3 t3 t16 := by
  have e4 : ∀ t3 t22, F112.labX (bodyOf Try.f112) tabR tyR true cs112 rec (d + 1) 4 (st112_4 t3 t22) = c112_4 t3 t22 := fun t3 t22 => (Fn.labX_step _ _ _ _ _ _ _ _ _ _ (by kernel_rfl)).trans (n112_4 rec d t3 t22)
  show F112.labD (bodyOf Try.f112) tabR tyR true cs112 rec ((d + 1) + 1) 3 _ = _
  rw [Fn.labD_succ, p112_3]
  simp only [e4]
  rfl
theorem n112_2 (rec : Nat → SS → Option (RT.den F112.rs)) (d : Nat) (t3 : Int) (t11 : Bool) : F112.labD (bodyOf Try.f112) tabR tyR true cs112 rec (d + 3) 2 (st112_2 t3 t11) = c112_2 t3 t11 := by
  have e3 : ∀ t3 t16, F112.labX (bodyOf Try.f112) tabR tyR true cs112 rec (d + 2) 3 (st112_3 t3 t16) = c112_3 t3 t16 := fun t3 t16 => (Fn.labX_step _ _ _ _ _ _ _ _ _ _ (by kernel_rfl)).trans (n112_3 rec d t3 t16)
  show F112.labD (bodyOf Try.f112) tabR tyR true cs112 rec ((d + 2) + 1) 2 _ = _
  rw [Fn.labD_succ, p112_2]
  simp only [e3]
  rfl
theorem n112_1 (rec : Nat → SS → Option (RT.den F112.rs)) (d : Nat) (t3 : Int) (t4 : Bool) : F112.labD (bodyOf Try.f112) tabR tyR true cs112 rec (d + 4) 1 (st112_1 t3 t4) = c112_1 t3 t4 := by
  have e2 : ∀ t3 t11, F112.labX (bodyOf Try.f112) tabR tyR true cs112 rec (d + 3) 2 (st112_2 t3 t11) = c112_2 t3 t11 := fun t3 t11 => (Fn.labX_step _ _ _ _ _ _ _ _ _ _ (by kernel_rfl)).trans (n112_2 rec d t3 t11)
  show F112.labD (bodyOf Try.f112) tabR tyR true cs112 rec ((d + 3) + 1) 1 _ = _
  rw [Fn.labD_succ, p112_1]
  simp only [e2]
  rfl
theorem w112 (x : PTs.den F112.ps) : F112.body (bodyOf Try.f112) tabR tyR true cs112 (F112.labX (bodyOf Try.f112) tabR tyR true cs112 (F112.labM (bodyOf Try.f112) tabR tyR true cs112 0) F112.D) x = o112_0 (c112_1) x.1 := by
  have e1 : ∀ t3 t4, F112.labX (bodyOf Try.f112) tabR tyR true cs112 (F112.labM (bodyOf Try.f112) tabR tyR true cs112 0) 6 1 (st112_1 t3 t4) = c112_1 t3 t4 := fun t3 t4 => (Fn.labX_step _ _ _ _ _ _ _ _ _ _ (by kernel_rfl)).trans (n112_1 (F112.labM (bodyOf Try.f112) tabR tyR true cs112 0) 2 t3 t4)
  show F112.body (bodyOf Try.f112) tabR tyR true cs112 (F112.labX (bodyOf Try.f112) tabR tyR true cs112 (F112.labM (bodyOf Try.f112) tabR tyR true cs112 0) 6) x = _
  rw [p112_0]
  simp only [e1]
  try rfl
theorem call112 : Callable Try.prog 112 := callable_of Try.func112 (by kernel_rfl) (by kernel_rfl)
theorem ok112 : Cal.Ok Try.prog ⟨112, F112.ps, F112.rs, F112.fr, fun a => f112 a.1⟩ :=
  cal_of_fn F112 (code := bodyOf Try.f112) Try.func112 (by kernel_rfl) (by kernel_rfl) call112 htabR (cs := cs112) (fun c hc => by simp only [cs112, List.not_mem_nil] at hc) (fun _ => mixed) (by kernel_rfl) (by kernel_rfl) (by decide) (fun x => ⟨0, w112 x⟩)
-- tranship/term.Kids
def o57_0 (k1 : Int → Int → Bool → Option Int) (a0 : Int) (a1 : Int) : Option Int :=
  if (decide (a0 = (1 : Int))) then
    k1 a1 a0 (decide (a0 = (1 : Int)))
  else
    k1 a1 a0 (decide (a0 = (2 : Int)))
def o57_1 (k2 : Int → Int → Bool → Option Int) (t1 : Int) (t5 : Int) (t6 : Bool) : Option Int :=
  if t6 then
    some (0 : Int)
  else
    if (decide (t5 = (18 : Int))) then
      k2 t1 t5 (decide (t5 = (18 : Int)))
    else
      k2 t1 t5 (decide (t5 = (19 : Int)))
def o57_2 (k3 : Int → Int → Bool → Option Int) (t1 : Int) (t5 : Int) (t9 : Bool) : Option Int :=
  if t9 then
    some (1 : Int)
  else
    if (decide (t5 = (3 : Int))) then
      k3 t1 t5 (decide (t5 = (3 : Int)))
    else
      if (decide (t5 = (6 : Int))) then
        k3 t1 t5 (decide (t5 = (6 : Int)))
      else
        if (decide (t5 = (13 : Int))) then
          k3 t1 t5 (decide (t5 = (13 : Int)))
        else
          if (decide (t5 = (14 : Int))) then
            k3 t1 t5 (decide (t5 = (14 : Int)))
          else
            if (decide (t5 = (15 : Int))) then
              k3 t1 t5 (decide (t5 = (15 : Int)))
            else
              if (decide (t5 = (16 : Int))) then
                k3 t1 t5 (decide (t5 = (16 : Int)))
              else
                if (decide (t5 = (21 : Int))) then
                  k3 t1 t5 (decide (t5 = (21 : Int)))
                else
                  k3 t1 t5 (decide (t5 = (11 : Int)))
def o57_3 (k4 : Int → Int → Bool → Option Int) (t1 : Int) (t5 : Int) (t12 : Bool) : Option Int :=
  if t12 then
    some (2 : Int)
  else
    if (decide (t5 = (4 : Int))) then
      k4 t1 t5 (decide (t5 = (4 : Int)))
    else
      if (decide (t5 = (8 : Int))) then
        k4 t1 t5 (decide (t5 = (8 : Int)))
      else
        if (decide (t5 = (9 : Int))) then
          k4 t1 t5 (decide (t5 = (9 : Int)))
        else
          if (decide (t5 = (10 : Int))) then
            k4 t1 t5 (decide (t5 = (10 : Int)))
          else
            k4 t1 t5 (decide (t5 = (20 : Int)))
def o57_4 (k5 : Int → Int → Bool → Option Int) (t1 : Int) (t5 : Int) (t21 : Bool) : Option Int :=
  if t21 then
    some (3 : Int)
  else
    if (decide (t5 = (5 : Int))) then
      k5 t1 t5 (decide (t5 = (5 : Int)))
    else
      if (decide (t5 = (7 : Int))) then
        k5 t1 t5 (decide (t5 = (7 : Int)))
      else
        if (decide (t5 = (12 : Int))) then
          k5 t1 t5 (decide (t5 = (12 : Int)))
        else
          k5 t1 t5 (decide (t5 = (17 : Int)))
def o57_5 (t1 : Int) (t5 : Int) (t27 : Bool) : Option Int :=
  if t27 then
    some (4 : Int)
  else
    if (decide (t5 = (22 : Int))) then
      some (6 : Int)
    else
      if (decide (t5 = (23 : Int))) then
        (f112 t1).bind fun x1 =>
        some x1
      else
        some (-1 : Int)
def c57_5 (t1 : Int) (t5 : Int) (t27 : Bool) : Option Int :=
  o57_5 t1 t5 t27
def c57_4 (t1 : Int) (t5 : Int) (t21 : Bool) : Option Int :=
  o57_4 (c57_5) t1 t5 t21
def c57_3 (t1 : Int) (t5 : Int) (t12 : Bool) : Option Int :=
  o57_3 (c57_4) t1 t5 t12
def c57_2 (t1 : Int) (t5 : Int) (t9 : Bool) : Option Int :=
  o57_2 (c57_3) t1 t5 t9
def c57_1 (t1 : Int) (t5 : Int) (t6 : Bool) : Option Int :=
  o57_1 (c57_2) t1 t5 t6
def f57 (a0 : Int) (a1 : Int) : Option Int := o57_0 (c57_1) a0 a1
def an57 : An := (.n none [] 0 .z (.n none [] 0 (.n none [] 0 .z (.n none [] 0 (.n (some 1) [(1, .one .c), (5, .one .c), (6, .one .c)] 0 .z (.n none [] 0 .z (.n (some 2) [(1, .one .c), (5, .one .c), (9, .one .c)] 0 .z (.n none [] 0 .z (.n (some 3) [(1, .one .c), (5, .one .c), (12, .one .c)] 0 .z (.n none [] 0 .z (.n (some 4) [(1, .one .c), (5, .one .c), (21, .one .c)] 0 .z (.n none [] 0 .z (.n (some 5) [(1, .one .c), (5, .one .c), (27, .one .c)] 0 .z .z))))))))) .z)) .z))
def F57 : Fn := { f := 57, a := an57, vars := [.tmp 4], ps := [.sc .int, .sc .int], rs := [.sc .int], own := false, fr := true, nt := 38, D := 7, loops := [] }
def cs57 : List Cal := [⟨112, [.sc .int], [.sc .int], true, fun a => f112 a.1⟩]
def st57_1 (t1 : Int) (t5 : Int) (t6 : Bool) : SS := ⟨[(1, .v (.one (.c (.int t1) true))), (5, .v (.one (.c (.int t5) true))), (6, .v (.one (.c (.bool t6) true)))], [], 0⟩
def st57_2 (t1 : Int) (t5 : Int) (t9 : Bool) : SS := ⟨[(1, .v (.one (.c (.int t1) true))), (5, .v (.one (.c (.int t5) true))), (9, .v (.one (.c (.bool t9) true)))], [], 0⟩
def st57_3 (t1 : Int) (t5 : Int) (t12 : Bool) : SS := ⟨[(1, .v (.one (.c (.int t1) true))), (5, .v (.one (.c (.int t5) true))), (12, .v (.one (.c (.bool t12) true)))], [], 0⟩
def st57_4 (t1 : Int) (t5 : Int) (t21 : Bool) : SS := ⟨[(1, .v (.one (.c (.int t1) true))), (5, .v (.one (.c (.int t5) true))), (21, .v (.one (.c (.bool t21) true)))], [], 0⟩
def st57_5 (t1 : Int) (t5 : Int) (t27 : Bool) : SS := ⟨[(1, .v (.one (.c (.int t1) true))), (5, .v (.one (.c (.int t5) true))), (27, .v (.one (.c (.bool t27) true)))], [], 0⟩
theorem p57_0 (lab : Nat → SS → Option (RT.den F57.rs)) (x : PTs.den F57.ps) : F57.body (bodyOf Try.f57) tabR tyR true cs57 lab x = o57_0 (fun t1 t5 t6 => lab 1 (st57_1 t1 t5 t6)) x.1 x.2.1 := by kernel_rfl
theorem p57_1 (lab : Nat → SS → Option (RT.den F57.rs)) (t1 : Int) (t5 : Int) (t6 : Bool) : F57.at (bodyOf Try.f57) tabR tyR true cs57 lab 1 (st57_1 t1 t5 t6) = o57_1 (fun t1 t5 t9 => lab 2 (st57_2 t1 t5 t9)) t1 t5 t6 := by kernel_rfl
theorem p57_2 (lab : Nat → SS → Option (RT.den F57.rs)) (t1 : Int) (t5 : Int) (t9 : Bool) : F57.at (bodyOf Try.f57) tabR tyR true cs57 lab 2 (st57_2 t1 t5 t9) = o57_2 (fun t1 t5 t12 => lab 3 (st57_3 t1 t5 t12)) t1 t5 t9 := by kernel_rfl
theorem p57_3 (lab : Nat → SS → Option (RT.den F57.rs)) (t1 : Int) (t5 : Int) (t12 : Bool) : F57.at (bodyOf Try.f57) tabR tyR true cs57 lab 3 (st57_3 t1 t5 t12) = o57_3 (fun t1 t5 t21 => lab 4 (st57_4 t1 t5 t21)) t1 t5 t12 := by kernel_rfl
theorem p57_4 (lab : Nat → SS → Option (RT.den F57.rs)) (t1 : Int) (t5 : Int) (t21 : Bool) : F57.at (bodyOf Try.f57) tabR tyR true cs57 lab 4 (st57_4 t1 t5 t21) = o57_4 (fun t1 t5 t27 => lab 5 (st57_5 t1 t5 t27)) t1 t5 t21 := by kernel_rfl
theorem p57_5 (lab : Nat → SS → Option (RT.den F57.rs)) (t1 : Int) (t5 : Int) (t27 : Bool) : F57.at (bodyOf Try.f57) tabR tyR true cs57 lab 5 (st57_5 t1 t5 t27) = o57_5 t1 t5 t27 := by kernel_rfl
theorem n57_5 (rec : Nat → SS → Option (RT.den F57.rs)) (d : Nat) (t1 : Int) (t5 : Int) (t27 : Bool) : F57.labD (bodyOf Try.f57) tabR tyR true cs57 rec (d + 1) 5 (st57_5 t1 t5 t27) = c57_5 t1 t5 t27 := by
  show F57.labD (bodyOf Try.f57) tabR tyR true cs57 rec (d + 1) 5 _ = _
  rw [Fn.labD_succ, p57_5]
  rfl
theorem n57_4 (rec : Nat → SS → Option (RT.den F57.rs)) (d : Nat) (t1 : Int) (t5 : Int) (t21 : Bool) : F57.labD (bodyOf Try.f57) tabR tyR true cs57 rec (d + 2) 4 (st57_4 t1 t5 t21) = c57_4 t1 t5 t21 := by
  have e5 : ∀ t1 t5 t27, F57.labX (bodyOf Try.f57) tabR tyR true cs57 rec (d + 1) 5 (st57_5 t1 t5 t27) = c57_5 t1 t5 t27 := fun t1 t5 t27 => (Fn.labX_step _ _ _ _ _ _ _ _ _ _ (by kernel_rfl)).trans (n57_5 rec d t1 t5 t27)
  show F57.labD (bodyOf Try.f57) tabR tyR true cs57 rec ((d + 1) + 1) 4 _ = _
  rw [Fn.labD_succ, p57_4]
  simp only [e5]
  rfl
theorem n57_3 (rec : Nat → SS → Option (RT.den F57.rs)) (d : Nat) (t1 : Int) (t5 : Int) (t12 : Bool) : F57.labD (bodyOf Try.f57) tabR tyR true cs57 rec (d + 3) 3 (st57_3 t1 t5 t12) = c57_3 t1 t5 t12 := by
  have e4 : ∀ t1 t5 t21, F57.labX (bodyOf Try.f57) tabR tyR true cs57 rec (d + 2) 4 (st57_4 t1 t5 t21) = c57_4 t1 t5 t21 := fun t1 t5 t21 => (Fn.labX_step _ _ _ _ _ _ _ _ _ _ (by kernel_rfl)).trans (n57_4 rec d t1 t5 t21)
  show F57.labD (bodyOf Try.f57) tabR tyR true cs57 rec ((d + 2) + 1) 3 _ = _
  rw [Fn.labD_succ, p57_3]
  simp only [e4]
  rfl
theorem n57_2 (rec : Nat → SS → Option (RT.den F57.rs)) (d : Nat) (t1 : Int) (t5 : Int) (t9 : Bool) : F57.labD (bodyOf Try.f57) tabR tyR true cs57 rec (d + 4) 2 (st57_2 t1 t5 t9) = c57_2 t1 t5 t9 := by
  have e3 : ∀ t1 t5 t12, F57.labX (bodyOf Try.f57) tabR tyR true cs57 rec (d + 3) 3 (st57_3 t1 t5 t12) = c57_3 t1 t5 t12 := fun t1 t5 t12 => (Fn.labX_step _ _ _ _ _ _ _ _ _ _ (by kernel_rfl)).trans (n57_3 rec d t1 t5 t12)
  show F57.labD (bodyOf Try.f57) tabR tyR true cs57 rec ((d + 3) + 1) 2 _ = _
  rw [Fn.labD_succ, p57_2]
  simp only [e3]
  rfl
theorem n57_1 (rec : Nat → SS → Option (RT.den F57.rs)) (d : Nat) (t1 : Int) (t5 : Int) (t6 : Bool) : F57.labD (bodyOf Try.f57) tabR tyR true cs57 rec (d + 5) 1 (st57_1 t1 t5 t6) = c57_1 t1 t5 t6 := by
  have e2 : ∀ t1 t5 t9, F57.labX (bodyOf Try.f57) tabR tyR true cs57 rec (d + 4) 2 (st57_2 t1 t5 t9) = c57_2 t1 t5 t9 := fun t1 t5 t9 => (Fn.labX_step _ _ _ _ _ _ _ _ _ _ (by kernel_rfl)).trans (n57_2 rec d t1 t5 t9)
  show F57.labD (bodyOf Try.f57) tabR tyR true cs57 rec ((d + 4) + 1) 1 _ = _
  rw [Fn.labD_succ, p57_1]
  simp only [e2]
  rfl
theorem w57 (x : PTs.den F57.ps) : F57.body (bodyOf Try.f57) tabR tyR true cs57 (F57.labX (bodyOf Try.f57) tabR tyR true cs57 (F57.labM (bodyOf Try.f57) tabR tyR true cs57 0) F57.D) x = o57_0 (c57_1) x.1 x.2.1 := by
  have e1 : ∀ t1 t5 t6, F57.labX (bodyOf Try.f57) tabR tyR true cs57 (F57.labM (bodyOf Try.f57) tabR tyR true cs57 0) 7 1 (st57_1 t1 t5 t6) = c57_1 t1 t5 t6 := fun t1 t5 t6 => (Fn.labX_step _ _ _ _ _ _ _ _ _ _ (by kernel_rfl)).trans (n57_1 (F57.labM (bodyOf Try.f57) tabR tyR true cs57 0) 2 t1 t5 t6)
  show F57.body (bodyOf Try.f57) tabR tyR true cs57 (F57.labX (bodyOf Try.f57) tabR tyR true cs57 (F57.labM (bodyOf Try.f57) tabR tyR true cs57 0) 7) x = _
  rw [p57_0]
  simp only [e1]
  try rfl
theorem call57 : Callable Try.prog 57 := callable_of Try.func57 (by kernel_rfl) (by kernel_rfl)
theorem ok57 : Cal.Ok Try.prog ⟨57, F57.ps, F57.rs, F57.fr, fun a => f57 a.1 a.2.1⟩ :=
  cal_of_fn F57 (code := bodyOf Try.f57) Try.func57 (by kernel_rfl) (by kernel_rfl) call57 htabR (cs := cs57) (fun c hc => by
      simp only [cs57, List.mem_cons, List.not_mem_nil, or_false] at hc
      rcases hc with rfl
      · exact ok112) (fun _ => mixed) (by kernel_rfl) (by kernel_rfl) (by decide) (fun x => ⟨0, w57 x⟩)
-- tranship/transhipref04.Kids
def o58_0 (k1 : Int → Int → Bool → Option Int) (a0 : Int) (a1 : Int) : Option Int :=
  if (decide (a0 = (1 : Int))) then
    k1 a1 a0 (decide (a0 = (1 : Int)))
  else
    k1 a1 a0 (decide (a0 = (2 : Int)))
def o58_1 (k2 : Int → Int → Bool → Option Int) (t1 : Int) (t6 : Int) (t7 : Bool) : Option Int :=
  if t7 then
    some (0 : Int)
  else
    if (decide (t6 = (18 : Int))) then
      k2 t1 t6 (decide (t6 = (18 : Int)))
    else
      k2 t1 t6 (decide (t6 = (19 : Int)))
def o58_2 (k3 : Int → Int → Bool → Option Int) (t1 : Int) (t6 : Int) (t10 : Bool) : Option Int :=
  if t10 then
    some (1 : Int)
  else
    if (decide (t6 = (3 : Int))) then
      k3 t1 t6 (decide (t6 = (3 : Int)))
    else
      if (decide (t6 = (6 : Int))) then
        k3 t1 t6 (decide (t6 = (6 : Int)))
      else
        if (decide (t6 = (13 : Int))) then
          k3 t1 t6 (decide (t6 = (13 : Int)))
        else
          if (decide (t6 = (14 : Int))) then
            k3 t1 t6 (decide (t6 = (14 : Int)))
          else
            if (decide (t6 = (15 : Int))) then
              k3 t1 t6 (decide (t6 = (15 : Int)))
            else
              if (decide (t6 = (16 : Int))) then
                k3 t1 t6 (decide (t6 = (16 : Int)))
              else
                if (decide (t6 = (21 : Int))) then
                  k3 t1 t6 (decide (t6 = (21 : Int)))
                else
                  k3 t1 t6 (decide (t6 = (11 : Int)))
def o58_3 (k4 : Int → Int → Bool → Option Int) (t1 : Int) (t6 : Int) (t13 : Bool) : Option Int :=
  if t13 then
    some (2 : Int)
  else
    if (decide (t6 = (4 : Int))) then
      k4 t1 t6 (decide (t6 = (4 : Int)))
    else
      if (decide (t6 = (8 : Int))) then
        k4 t1 t6 (decide (t6 = (8 : Int)))
      else
        if (decide (t6 = (9 : Int))) then
          k4 t1 t6 (decide (t6 = (9 : Int)))
        else
          if (decide (t6 = (10 : Int))) then
            k4 t1 t6 (decide (t6 = (10 : Int)))
          else
            k4 t1 t6 (decide (t6 = (20 : Int)))
def o58_4 (k5 : Int → Int → Bool → Option Int) (t1 : Int) (t6 : Int) (t22 : Bool) : Option Int :=
  if t22 then
    some (3 : Int)
  else
    if (decide (t6 = (5 : Int))) then
      k5 t1 t6 (decide (t6 = (5 : Int)))
    else
      if (decide (t6 = (7 : Int))) then
        k5 t1 t6 (decide (t6 = (7 : Int)))
      else
        if (decide (t6 = (12 : Int))) then
          k5 t1 t6 (decide (t6 = (12 : Int)))
        else
          k5 t1 t6 (decide (t6 = (17 : Int)))
def o58_5 (k6 : Int → (List Int) → Bool → Option Int) (t1 : Int) (t6 : Int) (t28 : Bool) : Option Int :=
  if t28 then
    some (4 : Int)
  else
    if (decide (t6 = (22 : Int))) then
      some (6 : Int)
    else
      if (decide (t6 = (23 : Int))) then
        if (decide ((1 : Int) ≤ t1)) then
          k6 t1 [(5 : Int), (5 : Int), (4 : Int), (6 : Int), (4 : Int), (4 : Int), (5 : Int), (4 : Int), (5 : Int), (4 : Int), (4 : Int), (6 : Int), (6 : Int), (6 : Int), (9 : Int), (12 : Int), (12 : Int), (9 : Int), (9 : Int), (9 : Int), (6 : Int)] (decide (t1 ≤ ([(5 : Int), (5 : Int), (4 : Int), (6 : Int), (4 : Int), (4 : Int), (5 : Int), (4 : Int), (5 : Int), (4 : Int), (4 : Int), (6 : Int), (6 : Int), (6 : Int), (9 : Int), (12 : Int), (12 : Int), (9 : Int), (9 : Int), (9 : Int), (6 : Int)].length : Int)))
        else
          k6 t1 [(5 : Int), (5 : Int), (4 : Int), (6 : Int), (4 : Int), (4 : Int), (5 : Int), (4 : Int), (5 : Int), (4 : Int), (4 : Int), (6 : Int), (6 : Int), (6 : Int), (9 : Int), (12 : Int), (12 : Int), (9 : Int), (9 : Int), (9 : Int), (6 : Int)] false
      else
        some (-1 : Int)
def o58_6 (t1 : Int) (t5 : List Int) (t45 : Bool) : Option Int :=
  if t45 then
    ckI (t1 - (1 : Int)) <|
    ckB (decide (0 ≤ (t1 - (1 : Int))) && decide ((t1 - (1 : Int)) < t5.length)) <|
    atN t5 (t1 - (1 : Int)).toNat fun x1 =>
    some x1
  else
    some (-1 : Int)
def c58_6 (t1 : Int) (t5 : List Int) (t45 : Bool) : Option Int :=
  o58_6 t1 t5 t45
def c58_5 (t1 : Int) (t6 : Int) (t28 : Bool) : Option Int :=
  o58_5 (c58_6) t1 t6 t28
def c58_4 (t1 : Int) (t6 : Int) (t22 : Bool) : Option Int :=
  o58_4 (c58_5) t1 t6 t22
def c58_3 (t1 : Int) (t6 : Int) (t13 : Bool) : Option Int :=
  o58_3 (c58_4) t1 t6 t13
def c58_2 (t1 : Int) (t6 : Int) (t10 : Bool) : Option Int :=
  o58_2 (c58_3) t1 t6 t10
def c58_1 (t1 : Int) (t6 : Int) (t7 : Bool) : Option Int :=
  o58_1 (c58_2) t1 t6 t7
def f58 (a0 : Int) (a1 : Int) : Option Int := o58_0 (c58_1) a0 a1
def an58 : An := (.n none [] 0 .z (.n none [] 0 (.n none [] 0 .z (.n none [] 0 (.n (some 1) [(1, .one .c), (6, .one .c), (7, .one .c)] 0 .z (.n none [] 0 .z (.n (some 2) [(1, .one .c), (6, .one .c), (10, .one .c)] 0 .z (.n none [] 0 .z (.n (some 3) [(1, .one .c), (6, .one .c), (13, .one .c)] 0 .z (.n none [] 0 .z (.n (some 4) [(1, .one .c), (6, .one .c), (22, .one .c)] 0 .z (.n none [] 0 .z (.n (some 5) [(1, .one .c), (6, .one .c), (28, .one .c)] 0 .z (.n none [] 0 .z (.n none [] 0 .z (.n none [] 0 .z (.n none [] 0 .z (.n none [] 0 (.n none [] 0 .z (.n (some 6) [(1, .one .c), (5, .one (.r 0 3 .int true)), (45, .one .c)] 1 .z .z)) .z)))))))))))))) .z)) .z))
def F58 : Fn := { f := 58, a := an58, vars := [.tmp 4], ps := [.sc .int, .sc .int], rs := [.sc .int], own := false, fr := true, nt := 51, D := 8, loops := [] }
def cs58 : List Cal := []
def st58_1 (t1 : Int) (t6 : Int) (t7 : Bool) : SS := ⟨[(1, .v (.one (.c (.int t1) true))), (6, .v (.one (.c (.int t6) true))), (7, .v (.one (.c (.bool t7) true)))], [], 0⟩
def st58_2 (t1 : Int) (t6 : Int) (t10 : Bool) : SS := ⟨[(1, .v (.one (.c (.int t1) true))), (6, .v (.one (.c (.int t6) true))), (10, .v (.one (.c (.bool t10) true)))], [], 0⟩
def st58_3 (t1 : Int) (t6 : Int) (t13 : Bool) : SS := ⟨[(1, .v (.one (.c (.int t1) true))), (6, .v (.one (.c (.int t6) true))), (13, .v (.one (.c (.bool t13) true)))], [], 0⟩
def st58_4 (t1 : Int) (t6 : Int) (t22 : Bool) : SS := ⟨[(1, .v (.one (.c (.int t1) true))), (6, .v (.one (.c (.int t6) true))), (22, .v (.one (.c (.bool t22) true)))], [], 0⟩
def st58_5 (t1 : Int) (t6 : Int) (t28 : Bool) : SS := ⟨[(1, .v (.one (.c (.int t1) true))), (6, .v (.one (.c (.int t6) true))), (28, .v (.one (.c (.bool t28) true)))], [], 0⟩
def st58_6 (t1 : Int) (t5 : List Int) (t45 : Bool) : SS := ⟨[(1, .v (.one (.c (.int t1) true))), (5, .v (.one (.arr 0))), (45, .v (.one (.c (.bool t45) true)))], [(0, some (.row 3 .int t5 true))], 1⟩
theorem p58_0 (lab : Nat → SS → Option (RT.den F58.rs)) (x : PTs.den F58.ps) : F58.body (bodyOf Try.f58) tabR tyR true cs58 lab x = o58_0 (fun t1 t6 t7 => lab 1 (st58_1 t1 t6 t7)) x.1 x.2.1 := by kernel_rfl
theorem p58_1 (lab : Nat → SS → Option (RT.den F58.rs)) (t1 : Int) (t6 : Int) (t7 : Bool) : F58.at (bodyOf Try.f58) tabR tyR true cs58 lab 1 (st58_1 t1 t6 t7) = o58_1 (fun t1 t6 t10 => lab 2 (st58_2 t1 t6 t10)) t1 t6 t7 := by kernel_rfl
theorem p58_2 (lab : Nat → SS → Option (RT.den F58.rs)) (t1 : Int) (t6 : Int) (t10 : Bool) : F58.at (bodyOf Try.f58) tabR tyR true cs58 lab 2 (st58_2 t1 t6 t10) = o58_2 (fun t1 t6 t13 => lab 3 (st58_3 t1 t6 t13)) t1 t6 t10 := by kernel_rfl
theorem p58_3 (lab : Nat → SS → Option (RT.den F58.rs)) (t1 : Int) (t6 : Int) (t13 : Bool) : F58.at (bodyOf Try.f58) tabR tyR true cs58 lab 3 (st58_3 t1 t6 t13) = o58_3 (fun t1 t6 t22 => lab 4 (st58_4 t1 t6 t22)) t1 t6 t13 := by kernel_rfl
theorem p58_4 (lab : Nat → SS → Option (RT.den F58.rs)) (t1 : Int) (t6 : Int) (t22 : Bool) : F58.at (bodyOf Try.f58) tabR tyR true cs58 lab 4 (st58_4 t1 t6 t22) = o58_4 (fun t1 t6 t28 => lab 5 (st58_5 t1 t6 t28)) t1 t6 t22 := by kernel_rfl
theorem p58_5 (lab : Nat → SS → Option (RT.den F58.rs)) (t1 : Int) (t6 : Int) (t28 : Bool) : F58.at (bodyOf Try.f58) tabR tyR true cs58 lab 5 (st58_5 t1 t6 t28) = o58_5 (fun t1 t5 t45 => lab 6 (st58_6 t1 t5 t45)) t1 t6 t28 := by kernel_rfl
theorem p58_6 (lab : Nat → SS → Option (RT.den F58.rs)) (t1 : Int) (t5 : List Int) (t45 : Bool) : F58.at (bodyOf Try.f58) tabR tyR true cs58 lab 6 (st58_6 t1 t5 t45) = o58_6 t1 t5 t45 := by kernel_rfl
theorem n58_6 (rec : Nat → SS → Option (RT.den F58.rs)) (d : Nat) (t1 : Int) (t5 : List Int) (t45 : Bool) : F58.labD (bodyOf Try.f58) tabR tyR true cs58 rec (d + 1) 6 (st58_6 t1 t5 t45) = c58_6 t1 t5 t45 := by
  show F58.labD (bodyOf Try.f58) tabR tyR true cs58 rec (d + 1) 6 _ = _
  rw [Fn.labD_succ, p58_6]
  rfl
theorem n58_5 (rec : Nat → SS → Option (RT.den F58.rs)) (d : Nat) (t1 : Int) (t6 : Int) (t28 : Bool) : F58.labD (bodyOf Try.f58) tabR tyR true cs58 rec (d + 2) 5 (st58_5 t1 t6 t28) = c58_5 t1 t6 t28 := by
  have e6 : ∀ t1 t5 t45, F58.labX (bodyOf Try.f58) tabR tyR true cs58 rec (d + 1) 6 (st58_6 t1 t5 t45) = c58_6 t1 t5 t45 := fun t1 t5 t45 => (Fn.labX_step _ _ _ _ _ _ _ _ _ _ (by kernel_rfl)).trans (n58_6 rec d t1 t5 t45)
  show F58.labD (bodyOf Try.f58) tabR tyR true cs58 rec ((d + 1) + 1) 5 _ = _
  rw [Fn.labD_succ, p58_5]
  simp only [e6]
  rfl
theorem n58_4 (rec : Nat → SS → Option (RT.den F58.rs)) (d : Nat) (t1 : Int) (t6 : Int) (t22 : Bool) : F58.labD (bodyOf Try.f58) tabR tyR true cs58 rec (d + 3) 4 (st58_4 t1 t6 t22) = c58_4 t1 t6 t22 := by
  have e5 : ∀ t1 t6 t28, F58.labX (bodyOf Try.f58) tabR tyR true cs58 rec (d + 2) 5 (st58_5 t1 t6 t28) = c58_5 t1 t6 t28 := fun t1 t6 t28 => (Fn.labX_step _ _ _ _ _ _ _ _ _ _ (by kernel_rfl)).trans (n58_5 rec d t1 t6 t28)
  show F58.labD (bodyOf Try.f58) tabR tyR true cs58 rec ((d + 2) + 1) 4 _ = _
  rw [Fn.labD_succ, p58_4]
  simp only [e5]
  rfl
theorem n58_3 (rec : Nat → SS → Option (RT.den F58.rs)) (d : Nat) (t1 : Int) (t6 : Int) (t13 : Bool) : F58.labD (bodyOf Try.f58) tabR tyR true cs58 rec (d + 4) 3 (st58_3 t1 t6 t13) = c58_3 t1 t6 t13 := by
  have e4 : ∀ t1 t6 t22, F58.labX (bodyOf Try.f58) tabR tyR true cs58 rec (d + 3) 4 (st58_4 t1 t6 t22) = c58_4 t1 t6 t22 := fun t1 t6 t22 => (Fn.labX_step _ _ _ _ _ _ _ _ _ _ (by kernel_rfl)).trans (n58_4 rec d t1 t6 t22)
  show F58.labD (bodyOf Try.f58) tabR tyR true cs58 rec ((d + 3) + 1) 3 _ = _
  rw [Fn.labD_succ, p58_3]
  simp only [e4]
  rfl
theorem n58_2 (rec : Nat → SS → Option (RT.den F58.rs)) (d : Nat) (t1 : Int) (t6 : Int) (t10 : Bool) : F58.labD (bodyOf Try.f58) tabR tyR true cs58 rec (d + 5) 2 (st58_2 t1 t6 t10) = c58_2 t1 t6 t10 := by
  have e3 : ∀ t1 t6 t13, F58.labX (bodyOf Try.f58) tabR tyR true cs58 rec (d + 4) 3 (st58_3 t1 t6 t13) = c58_3 t1 t6 t13 := fun t1 t6 t13 => (Fn.labX_step _ _ _ _ _ _ _ _ _ _ (by kernel_rfl)).trans (n58_3 rec d t1 t6 t13)
  show F58.labD (bodyOf Try.f58) tabR tyR true cs58 rec ((d + 4) + 1) 2 _ = _
  rw [Fn.labD_succ, p58_2]
  simp only [e3]
  rfl
theorem n58_1 (rec : Nat → SS → Option (RT.den F58.rs)) (d : Nat) (t1 : Int) (t6 : Int) (t7 : Bool) : F58.labD (bodyOf Try.f58) tabR tyR true cs58 rec (d + 6) 1 (st58_1 t1 t6 t7) = c58_1 t1 t6 t7 := by
  have e2 : ∀ t1 t6 t10, F58.labX (bodyOf Try.f58) tabR tyR true cs58 rec (d + 5) 2 (st58_2 t1 t6 t10) = c58_2 t1 t6 t10 := fun t1 t6 t10 => (Fn.labX_step _ _ _ _ _ _ _ _ _ _ (by kernel_rfl)).trans (n58_2 rec d t1 t6 t10)
  show F58.labD (bodyOf Try.f58) tabR tyR true cs58 rec ((d + 5) + 1) 1 _ = _
  rw [Fn.labD_succ, p58_1]
  simp only [e2]
  rfl
theorem w58 (x : PTs.den F58.ps) : F58.body (bodyOf Try.f58) tabR tyR true cs58 (F58.labX (bodyOf Try.f58) tabR tyR true cs58 (F58.labM (bodyOf Try.f58) tabR tyR true cs58 0) F58.D) x = o58_0 (c58_1) x.1 x.2.1 := by
  have e1 : ∀ t1 t6 t7, F58.labX (bodyOf Try.f58) tabR tyR true cs58 (F58.labM (bodyOf Try.f58) tabR tyR true cs58 0) 8 1 (st58_1 t1 t6 t7) = c58_1 t1 t6 t7 := fun t1 t6 t7 => (Fn.labX_step _ _ _ _ _ _ _ _ _ _ (by kernel_rfl)).trans (n58_1 (F58.labM (bodyOf Try.f58) tabR tyR true cs58 0) 2 t1 t6 t7)
  show F58.body (bodyOf Try.f58) tabR tyR true cs58 (F58.labX (bodyOf Try.f58) tabR tyR true cs58 (F58.labM (bodyOf Try.f58) tabR tyR true cs58 0) 8) x = _
  rw [p58_0]
  simp only [e1]
  try rfl
theorem call58 : Callable Try.prog 58 := callable_of Try.func58 (by kernel_rfl) (by kernel_rfl)
theorem ok58 : Cal.Ok Try.prog ⟨58, F58.ps, F58.rs, F58.fr, fun a => f58 a.1 a.2.1⟩ :=
  cal_of_fn F58 (code := bodyOf Try.f58) Try.func58 (by kernel_rfl) (by kernel_rfl) call58 htabR (cs := cs58) (fun c hc => by simp only [cs58, List.not_mem_nil] at hc) (fun _ => mixed) (by kernel_rfl) (by kernel_rfl) (by decide) (fun x => ⟨0, w58 x⟩)
-- tranship/bare.Binds
def o113_0 (k1 : Int → Int → Bool → Option Int) (a0 : Int) (a1 : Int) : Option Int :=
  if (decide (a0 = (3 : Int))) then
    k1 a1 a0 (decide (a0 = (3 : Int)))
  else
    if (decide (a0 = (5 : Int))) then
      k1 a1 a0 (decide (a0 = (5 : Int)))
    else
      if (decide (a0 = (6 : Int))) then
        k1 a1 a0 (decide (a0 = (6 : Int)))
      else
        if (decide (a0 = (7 : Int))) then
          k1 a1 a0 (decide (a0 = (7 : Int)))
        else
          if (decide (a0 = (8 : Int))) then
            k1 a1 a0 (decide (a0 = (8 : Int)))
          else
            if (decide (a0 = (9 : Int))) then
              k1 a1 a0 (decide (a0 = (9 : Int)))
            else
              if (decide (a0 = (13 : Int))) then
                k1 a1 a0 (decide (a0 = (13 : Int)))
              else
                if (decide (a0 = (14 : Int))) then
                  k1 a1 a0 (decide (a0 = (14 : Int)))
                else
                  if (decide (a0 = (16 : Int))) then
                    k1 a1 a0 (decide (a0 = (16 : Int)))
                  else
                    k1 a1 a0 (decide (a0 = (17 : Int)))
def o113_1 (t1 : Int) (t5 : Int) (t6 : Bool) : Option Int :=
  if t6 then
    if (decide (t1 = (1 : Int))) then
      some (1 : Int)
    else
      some (0 : Int)
  else
    if (decide (t5 = (4 : Int))) then
      if (decide (t1 = (1 : Int))) then
        some (1 : Int)
      else
        if (decide (t1 = (2 : Int))) then
          some (1 : Int)
        else
          some (0 : Int)
    else
      if (decide (t5 = (22 : Int))) then
        if (decide (t1 = (2 : Int))) then
          some (2 : Int)
        else
          some (0 : Int)
      else
        some (0 : Int)
def c113_1 (t1 : Int) (t5 : Int) (t6 : Bool) : Option Int :=
  o113_1 t1 t5 t6
def f113 (a0 : Int) (a1 : Int) : Option Int := o113_0 (c113_1) a0 a1
def an113 : An := (.n none [] 0 .z (.n none [] 0 (.n none [] 0 .z (.n none [] 0 (.n (some 1) [(1, .one .c), (5, .one .c), (6, .one .c)] 0 .z .z) .z)) .z))
def F113 : Fn := { f := 113, a := an113, vars := [.tmp 4], ps := [.sc .int, .sc .int], rs := [.sc .int], own := false, fr := true, nt := 31, D := 3, loops := [] }
def cs113 : List Cal := []
def st113_1 (t1 : Int) (t5 : Int) (t6 : Bool) : SS := ⟨[(1, .v (.one (.c (.int t1) true))), (5, .v (.one (.c (.int t5) true))), (6, .v (.one (.c (.bool t6) true)))], [], 0⟩
theorem p113_0 (lab : Nat → SS → Option (RT.den F113.rs)) (x : PTs.den F113.ps) : F113.body (bodyOf Try.f113) tabR tyR true cs113 lab x = o113_0 (fun t1 t5 t6 => lab 1 (st113_1 t1 t5 t6)) x.1 x.2.1 := by kernel_rfl
theorem p113_1 (lab : Nat → SS → Option (RT.den F113.rs)) (t1 : Int) (t5 : Int) (t6 : Bool) : F113.at (bodyOf Try.f113) tabR tyR true cs113 lab 1 (st113_1 t1 t5 t6) = o113_1 t1 t5 t6 := by kernel_rfl
theorem n113_1 (rec : Nat → SS → Option (RT.den F113.rs)) (d : Nat) (t1 : Int) (t5 : Int) (t6 : Bool) : F113.labD (bodyOf Try.f113) tabR tyR true cs113 rec (d + 1) 1 (st113_1 t1 t5 t6) = c113_1 t1 t5 t6 := by
  show F113.labD (bodyOf Try.f113) tabR tyR true cs113 rec (d + 1) 1 _ = _
  rw [Fn.labD_succ, p113_1]
  rfl
theorem w113 (x : PTs.den F113.ps) : F113.body (bodyOf Try.f113) tabR tyR true cs113 (F113.labX (bodyOf Try.f113) tabR tyR true cs113 (F113.labM (bodyOf Try.f113) tabR tyR true cs113 0) F113.D) x = o113_0 (c113_1) x.1 x.2.1 := by
  have e1 : ∀ t1 t5 t6, F113.labX (bodyOf Try.f113) tabR tyR true cs113 (F113.labM (bodyOf Try.f113) tabR tyR true cs113 0) 3 1 (st113_1 t1 t5 t6) = c113_1 t1 t5 t6 := fun t1 t5 t6 => (Fn.labX_step _ _ _ _ _ _ _ _ _ _ (by kernel_rfl)).trans (n113_1 (F113.labM (bodyOf Try.f113) tabR tyR true cs113 0) 2 t1 t5 t6)
  show F113.body (bodyOf Try.f113) tabR tyR true cs113 (F113.labX (bodyOf Try.f113) tabR tyR true cs113 (F113.labM (bodyOf Try.f113) tabR tyR true cs113 0) 3) x = _
  rw [p113_0]
  simp only [e1]
  try rfl
theorem call113 : Callable Try.prog 113 := callable_of Try.func113 (by kernel_rfl) (by kernel_rfl)
theorem ok113 : Cal.Ok Try.prog ⟨113, F113.ps, F113.rs, F113.fr, fun a => f113 a.1 a.2.1⟩ :=
  cal_of_fn F113 (code := bodyOf Try.f113) Try.func113 (by kernel_rfl) (by kernel_rfl) call113 htabR (cs := cs113) (fun c hc => by simp only [cs113, List.not_mem_nil] at hc) (fun _ => mixed) (by kernel_rfl) (by kernel_rfl) (by decide) (fun x => ⟨0, w113 x⟩)
-- tranship/term.Binds
def o59_0 (a0 : Int) (a1 : Int) : Option Int :=
  (f113 a0 a1).bind fun x1 =>
  some x1
def f59 (a0 : Int) (a1 : Int) : Option Int := o59_0 a0 a1
def an59 : An := .z
def F59 : Fn := { f := 59, a := an59, vars := [.tmp 4], ps := [.sc .int, .sc .int], rs := [.sc .int], own := false, fr := true, nt := 8, D := 2, loops := [] }
def cs59 : List Cal := [⟨113, [.sc .int, .sc .int], [.sc .int], true, fun a => f113 a.1 a.2.1⟩]
theorem p59_0 (lab : Nat → SS → Option (RT.den F59.rs)) (x : PTs.den F59.ps) : F59.body (bodyOf Try.f59) tabR tyR true cs59 lab x = o59_0 x.1 x.2.1 := by kernel_rfl
theorem w59 (x : PTs.den F59.ps) : F59.body (bodyOf Try.f59) tabR tyR true cs59 (F59.labX (bodyOf Try.f59) tabR tyR true cs59 (F59.labM (bodyOf Try.f59) tabR tyR true cs59 0) F59.D) x = o59_0 x.1 x.2.1 := by
  show F59.body (bodyOf Try.f59) tabR tyR true cs59 (F59.labX (bodyOf Try.f59) tabR tyR true cs59 (F59.labM (bodyOf Try.f59) tabR tyR true cs59 0) 2) x = _
  rw [p59_0]
theorem call59 : Callable Try.prog 59 := callable_of Try.func59 (by kernel_rfl) (by kernel_rfl)
theorem ok59 : Cal.Ok Try.prog ⟨59, F59.ps, F59.rs, F59.fr, fun a => f59 a.1 a.2.1⟩ :=
  cal_of_fn F59 (code := bodyOf Try.f59) Try.func59 (by kernel_rfl) (by kernel_rfl) call59 htabR (cs := cs59) (fun c hc => by
      simp only [cs59, List.mem_cons, List.not_mem_nil, or_false] at hc
      rcases hc with rfl
      · exact ok113) (fun _ => mixed) (by kernel_rfl) (by kernel_rfl) (by decide) (fun x => ⟨0, w59 x⟩)
-- tranship/transhipref04.Binds
def o60_0 (k1 : Int → Int → Bool → Option Int) (a0 : Int) (a1 : Int) : Option Int :=
  if (decide (a0 = (3 : Int))) then
    k1 a1 a0 (decide (a0 = (3 : Int)))
  else
    if (decide (a0 = (5 : Int))) then
      k1 a1 a0 (decide (a0 = (5 : Int)))
    else
      if (decide (a0 = (6 : Int))) then
        k1 a1 a0 (decide (a0 = (6 : Int)))
      else
        if (decide (a0 = (7 : Int))) then
          k1 a1 a0 (decide (a0 = (7 : Int)))
        else
          if (decide (a0 = (8 : Int))) then
            k1 a1 a0 (decide (a0 = (8 : Int)))
          else
            if (decide (a0 = (9 : Int))) then
              k1 a1 a0 (decide (a0 = (9 : Int)))
            else
              if (decide (a0 = (13 : Int))) then
                k1 a1 a0 (decide (a0 = (13 : Int)))
              else
                if (decide (a0 = (14 : Int))) then
                  k1 a1 a0 (decide (a0 = (14 : Int)))
                else
                  if (decide (a0 = (16 : Int))) then
                    k1 a1 a0 (decide (a0 = (16 : Int)))
                  else
                    k1 a1 a0 (decide (a0 = (17 : Int)))
def o60_1 (t1 : Int) (t5 : Int) (t6 : Bool) : Option Int :=
  if t6 then
    if (decide (t1 = (1 : Int))) then
      some (1 : Int)
    else
      some (0 : Int)
  else
    if (decide (t5 = (4 : Int))) then
      if (decide (t1 = (1 : Int))) then
        some (1 : Int)
      else
        if (decide (t1 = (2 : Int))) then
          some (1 : Int)
        else
          some (0 : Int)
    else
      if (decide (t5 = (22 : Int))) then
        if (decide (t1 = (2 : Int))) then
          some (2 : Int)
        else
          some (0 : Int)
      else
        some (0 : Int)
def c60_1 (t1 : Int) (t5 : Int) (t6 : Bool) : Option Int :=
  o60_1 t1 t5 t6
def f60 (a0 : Int) (a1 : Int) : Option Int := o60_0 (c60_1) a0 a1
def an60 : An := (.n none [] 0 .z (.n none [] 0 (.n none [] 0 .z (.n none [] 0 (.n (some 1) [(1, .one .c), (5, .one .c), (6, .one .c)] 0 .z .z) .z)) .z))
def F60 : Fn := { f := 60, a := an60, vars := [.tmp 4], ps := [.sc .int, .sc .int], rs := [.sc .int], own := false, fr := true, nt := 31, D := 3, loops := [] }
def cs60 : List Cal := []
def st60_1 (t1 : Int) (t5 : Int) (t6 : Bool) : SS := ⟨[(1, .v (.one (.c (.int t1) true))), (5, .v (.one (.c (.int t5) true))), (6, .v (.one (.c (.bool t6) true)))], [], 0⟩
theorem p60_0 (lab : Nat → SS → Option (RT.den F60.rs)) (x : PTs.den F60.ps) : F60.body (bodyOf Try.f60) tabR tyR true cs60 lab x = o60_0 (fun t1 t5 t6 => lab 1 (st60_1 t1 t5 t6)) x.1 x.2.1 := by kernel_rfl
theorem p60_1 (lab : Nat → SS → Option (RT.den F60.rs)) (t1 : Int) (t5 : Int) (t6 : Bool) : F60.at (bodyOf Try.f60) tabR tyR true cs60 lab 1 (st60_1 t1 t5 t6) = o60_1 t1 t5 t6 := by kernel_rfl
theorem n60_1 (rec : Nat → SS → Option (RT.den F60.rs)) (d : Nat) (t1 : Int) (t5 : Int) (t6 : Bool) : F60.labD (bodyOf Try.f60) tabR tyR true cs60 rec (d + 1) 1 (st60_1 t1 t5 t6) = c60_1 t1 t5 t6 := by
  show F60.labD (bodyOf Try.f60) tabR tyR true cs60 rec (d + 1) 1 _ = _
  rw [Fn.labD_succ, p60_1]
  rfl
theorem w60 (x : PTs.den F60.ps) : F60.body (bodyOf Try.f60) tabR tyR true cs60 (F60.labX (bodyOf Try.f60) tabR tyR true cs60 (F60.labM (bodyOf Try.f60) tabR tyR true cs60 0) F60.D) x = o60_0 (c60_1) x.1 x.2.1 := by
  have e1 : ∀ t1 t5 t6, F60.labX (bodyOf Try.f60) tabR tyR true cs60 (F60.labM (bodyOf Try.f60) tabR tyR true cs60 0) 3 1 (st60_1 t1 t5 t6) = c60_1 t1 t5 t6 := fun t1 t5 t6 => (Fn.labX_step _ _ _ _ _ _ _ _ _ _ (by kernel_rfl)).trans (n60_1 (F60.labM (bodyOf Try.f60) tabR tyR true cs60 0) 2 t1 t5 t6)
  show F60.body (bodyOf Try.f60) tabR tyR true cs60 (F60.labX (bodyOf Try.f60) tabR tyR true cs60 (F60.labM (bodyOf Try.f60) tabR tyR true cs60 0) 3) x = _
  rw [p60_0]
  simp only [e1]
  try rfl
theorem call60 : Callable Try.prog 60 := callable_of Try.func60 (by kernel_rfl) (by kernel_rfl)
theorem ok60 : Cal.Ok Try.prog ⟨60, F60.ps, F60.rs, F60.fr, fun a => f60 a.1 a.2.1⟩ :=
  cal_of_fn F60 (code := bodyOf Try.f60) Try.func60 (by kernel_rfl) (by kernel_rfl) call60 htabR (cs := cs60) (fun c hc => by simp only [cs60, List.not_mem_nil] at hc) (fun _ => mixed) (by kernel_rfl) (by kernel_rfl) (by decide) (fun x => ⟨0, w60 x⟩)
-- tranship/term.Size
def o63_0 (s63 : Tm → Option Int) (n : Nat) (k1 : Int → (List Tm) → Int → Int → Option Int) (a0 : Tm) : Option Int :=
  k1 (1 : Int) a0.kids (a0.kids.length : Int) (0 : Int)
def o63_1 (s63 : Tm → Option Int) (n : Nat) (k1 : Int → (List Tm) → Int → Int → Option Int) (t3 : Int) (t7 : List Tm) (t8 : Int) (t9 : Int) : Option Int :=
  if (decide (t9 < t8)) then
    atI t7 t9 fun x1 =>
    (s63 x1).bind fun x2 =>
    ckI (t3 + x2) <|
    ckI (t9 + (1 : Int)) <|
    k1 (t3 + x2) t7 t8 (t9 + (1 : Int))
  else
    some t3
def l63_1 (s63 : Tm → Option Int) (n : Nat) : Nat → Int → (List Tm) → Int → Int → Option Int
  | 0, _, _, _, _ => none
  | m + 1, t3, t7, t8, t9 => o63_1 s63 n (l63_1 s63 n m) t3 t7 t8 t9
def f63 : Nat → Tm → Option Int
  | 0, _ => none
  | n + 1, a0 => o63_0 (f63 n) n (l63_1 (f63 n) n n) a0
def an63 : An := (.n none [] 0 .z (.n none [] 0 .z (.n none [] 0 (.n none [] 0 .z (.n none [] 0 (.n (some 1) [(3, .one .c), (7, .one (.d .tm false)), (8, .one .c), (9, .one .c)] 0 .z .z) .z)) .z)))
def F63 : Fn := { f := 63, a := an63, vars := [.tmp 2], ps := [.st .tm], rs := [.sc .int], own := false, fr := true, nt := 19, D := 3, loops := [1] }
def cs63 (s63 : Tm → Option Int) (n : Nat) : List Cal := [⟨63, [.st .tm], [.sc .int], true, fun a => s63 a.1⟩]
def st63_1 (t3 : Int) (t7 : List Tm) (t8 : Int) (t9 : Int) : SS := ⟨[(3, .v (.one (.c (.int t3) true))), (7, .v (.one (.c (.sl .tm t7) false))), (8, .v (.one (.c (.int t8) true))), (9, .v (.one (.c (.int t9) true)))], [], 0⟩
theorem p63_0 (s63 : Tm → Option Int) (n : Nat) (lab : Nat → SS → Option (RT.den F63.rs)) (x : PTs.den F63.ps) : F63.body (bodyOf Try.f63) tabR tyR true (cs63 s63 n) lab x = o63_0 s63 n (fun t3 t7 t8 t9 => lab 1 (st63_1 t3 t7 t8 t9)) x.1 := by kernel_rfl
theorem p63_1 (s63 : Tm → Option Int) (n : Nat) (lab : Nat → SS → Option (RT.den F63.rs)) (t3 : Int) (t7 : List Tm) (t8 : Int) (t9 : Int) : F63.at (bodyOf Try.f63) tabR tyR true (cs63 s63 n) lab 1 (st63_1 t3 t7 t8 t9) = o63_1 s63 n (fun t3 t7 t8 t9 => lab 1 (st63_1 t3 t7 t8 t9)) t3 t7 t8 t9 := by kernel_rfl
theorem m63_1 (s63 : Tm → Option Int) (n : Nat) : ∀ m : Nat, (∀ t3 t7 t8 t9, F63.labM (bodyOf Try.f63) tabR tyR true (cs63 s63 n) m 1 (st63_1 t3 t7 t8 t9) = l63_1 s63 n m t3 t7 t8 t9) := by
  intro m
  induction m with
  | zero => exact fun _ _ _ _ => rfl
  | succ m ih =>
    intro t3 t7 t8 t9
    have e1 : ∀ t3 t7 t8 t9, F63.labX (bodyOf Try.f63) tabR tyR true (cs63 s63 n) (F63.labM (bodyOf Try.f63) tabR tyR true (cs63 s63 n) m) 2 1 (st63_1 t3 t7 t8 t9) = (l63_1 s63 n m) t3 t7 t8 t9 := fun t3 t7 t8 t9 => (Fn.labX_loop _ _ _ _ _ _ _ _ _ _ (by kernel_rfl)).trans (ih t3 t7 t8 t9)
    rw [Fn.labM_succ]
    show F63.labD (bodyOf Try.f63) tabR tyR true (cs63 s63 n) (F63.labM (bodyOf Try.f63) tabR tyR true (cs63 s63 n) m) (2 + 1) 1 _ = _
    rw [Fn.labD_succ, p63_1]
    simp only [e1]
    rfl
theorem w63 (s63 : Tm → Option Int) (n : Nat) (x : PTs.den F63.ps) : F63.body (bodyOf Try.f63) tabR tyR true (cs63 s63 n) (F63.labX (bodyOf Try.f63) tabR tyR true (cs63 s63 n) (F63.labM (bodyOf Try.f63) tabR tyR true (cs63 s63 n) n) F63.D) x = o63_0 s63 n (l63_1 s63 n n) x.1 := by
  have e1 : ∀ t3 t7 t8 t9, F63.labX (bodyOf Try.f63) tabR tyR true (cs63 s63 n) (F63.labM (bodyOf Try.f63) tabR tyR true (cs63 s63 n) n) 3 1 (st63_1 t3 t7 t8 t9) = (l63_1 s63 n n) t3 t7 t8 t9 := fun t3 t7 t8 t9 => (Fn.labX_loop _ _ _ _ _ _ _ _ _ _ (by kernel_rfl)).trans ((m63_1 s63 n n) t3 t7 t8 t9)
  show F63.body (bodyOf Try.f63) tabR tyR true (cs63 s63 n) (F63.labX (bodyOf Try.f63) tabR tyR true (cs63 s63 n) (F63.labM (bodyOf Try.f63) tabR tyR true (cs63 s63 n) n) 3) x = _
  rw [p63_0]
  simp only [e1]
  try rfl
theorem call63 : Callable Try.prog 63 := callable_of Try.func63 (by kernel_rfl) (by kernel_rfl)
theorem okr63 : ∀ n : Nat, Cal.Ok Try.prog ⟨63, F63.ps, F63.rs, F63.fr, fun a => f63 n a.1⟩
  | 0 => ⟨by kernel_rfl, fun a r h => by cases h⟩
  | n + 1 => cal_of_fn F63 (code := bodyOf Try.f63) Try.func63 (by kernel_rfl) (by kernel_rfl) call63 htabR (cs := cs63 (f63 n) n) (fun c hc => by
      simp only [cs63, List.mem_cons, List.not_mem_nil, or_false] at hc
      rcases hc with rfl
      · exact (okr63 n)) (fun _ => mixed) (by kernel_rfl) (by kernel_rfl) (by decide) (fun x => ⟨n, w63 (f63 n) n x⟩)
theorem ok63 (n : Nat) : Cal.Ok Try.prog ⟨63, F63.ps, F63.rs, F63.fr, fun a => f63 n a.1⟩ := (okr63 n)
-- tranship/term.Deep
def o64_0 (s64 : Tm → Option Int) (n : Nat) (k1 : Int → (List Tm) → Int → Int → Option Int) (a0 : Tm) : Option Int :=
  k1 (0 : Int) a0.kids (a0.kids.length : Int) (0 : Int)
def o64_1 (s64 : Tm → Option Int) (n : Nat) (k1 : Int → (List Tm) → Int → Int → Option Int) (t3 : Int) (t7 : List Tm) (t8 : Int) (t9 : Int) : Option Int :=
  if (decide (t9 < t8)) then
    atI t7 t9 fun x1 =>
    (s64 x1).bind fun x2 =>
    ckI (t9 + (1 : Int)) <|
    k1 (max t3 x2) t7 t8 (t9 + (1 : Int))
  else
    ckI (t3 + (1 : Int)) <|
    some (t3 + (1 : Int))
def l64_1 (s64 : Tm → Option Int) (n : Nat) : Nat → Int → (List Tm) → Int → Int → Option Int
  | 0, _, _, _, _ => none
  | m + 1, t3, t7, t8, t9 => o64_1 s64 n (l64_1 s64 n m) t3 t7 t8 t9
def f64 : Nat → Tm → Option Int
  | 0, _ => none
  | n + 1, a0 => o64_0 (f64 n) n (l64_1 (f64 n) n n) a0
def an64 : An := (.n none [] 0 .z (.n none [] 0 .z (.n none [] 0 (.n none [] 0 .z (.n none [] 0 (.n (some 1) [(3, .one .c), (7, .one (.d .tm false)), (8, .one .c), (9, .one .c)] 0 .z .z) .z)) .z)))
def F64 : Fn := { f := 64, a := an64, vars := [.tmp 2], ps := [.st .tm], rs := [.sc .int], own := false, fr := true, nt := 20, D := 3, loops := [1] }
def cs64 (s64 : Tm → Option Int) (n : Nat) : List Cal := [⟨64, [.st .tm], [.sc .int], true, fun a => s64 a.1⟩]
def st64_1 (t3 : Int) (t7 : List Tm) (t8 : Int) (t9 : Int) : SS := ⟨[(3, .v (.one (.c (.int t3) true))), (7, .v (.one (.c (.sl .tm t7) false))), (8, .v (.one (.c (.int t8) true))), (9, .v (.one (.c (.int t9) true)))], [], 0⟩
theorem p64_0 (s64 : Tm → Option Int) (n : Nat) (lab : Nat → SS → Option (RT.den F64.rs)) (x : PTs.den F64.ps) : F64.body (bodyOf Try.f64) tabR tyR true (cs64 s64 n) lab x = o64_0 s64 n (fun t3 t7 t8 t9 => lab 1 (st64_1 t3 t7 t8 t9)) x.1 := by kernel_rfl
theorem p64_1 (s64 : Tm → Option Int) (n : Nat) (lab : Nat → SS → Option (RT.den F64.rs)) (t3 : Int) (t7 : List Tm) (t8 : Int) (t9 : Int) : F64.at (bodyOf Try.f64) tabR tyR true (cs64 s64 n) lab 1 (st64_1 t3 t7 t8 t9) = o64_1 s64 n (fun t3 t7 t8 t9 => lab 1 (st64_1 t3 t7 t8 t9)) t3 t7 t8 t9 := by kernel_rfl
theorem m64_1 (s64 : Tm → Option Int) (n : Nat) : ∀ m : Nat, (∀ t3 t7 t8 t9, F64.labM (bodyOf Try.f64) tabR tyR true (cs64 s64 n) m 1 (st64_1 t3 t7 t8 t9) = l64_1 s64 n m t3 t7 t8 t9) := by
  intro m
  induction m with
  | zero => exact fun _ _ _ _ => rfl
  | succ m ih =>
    intro t3 t7 t8 t9
    have e1 : ∀ t3 t7 t8 t9, F64.labX (bodyOf Try.f64) tabR tyR true (cs64 s64 n) (F64.labM (bodyOf Try.f64) tabR tyR true (cs64 s64 n) m) 2 1 (st64_1 t3 t7 t8 t9) = (l64_1 s64 n m) t3 t7 t8 t9 := fun t3 t7 t8 t9 => (Fn.labX_loop _ _ _ _ _ _ _ _ _ _ (by kernel_rfl)).trans (ih t3 t7 t8 t9)
    rw [Fn.labM_succ]
    show F64.labD (bodyOf Try.f64) tabR tyR true (cs64 s64 n) (F64.labM (bodyOf Try.f64) tabR tyR true (cs64 s64 n) m) (2 + 1) 1 _ = _
    rw [Fn.labD_succ, p64_1]
    simp only [e1]
    rfl
theorem w64 (s64 : Tm → Option Int) (n : Nat) (x : PTs.den F64.ps) : F64.body (bodyOf Try.f64) tabR tyR true (cs64 s64 n) (F64.labX (bodyOf Try.f64) tabR tyR true (cs64 s64 n) (F64.labM (bodyOf Try.f64) tabR tyR true (cs64 s64 n) n) F64.D) x = o64_0 s64 n (l64_1 s64 n n) x.1 := by
  have e1 : ∀ t3 t7 t8 t9, F64.labX (bodyOf Try.f64) tabR tyR true (cs64 s64 n) (F64.labM (bodyOf Try.f64) tabR tyR true (cs64 s64 n) n) 3 1 (st64_1 t3 t7 t8 t9) = (l64_1 s64 n n) t3 t7 t8 t9 := fun t3 t7 t8 t9 => (Fn.labX_loop _ _ _ _ _ _ _ _ _ _ (by kernel_rfl)).trans ((m64_1 s64 n n) t3 t7 t8 t9)
  show F64.body (bodyOf Try.f64) tabR tyR true (cs64 s64 n) (F64.labX (bodyOf Try.f64) tabR tyR true (cs64 s64 n) (F64.labM (bodyOf Try.f64) tabR tyR true (cs64 s64 n) n) 3) x = _
  rw [p64_0]
  simp only [e1]
  try rfl
theorem call64 : Callable Try.prog 64 := callable_of Try.func64 (by kernel_rfl) (by kernel_rfl)
theorem okr64 : ∀ n : Nat, Cal.Ok Try.prog ⟨64, F64.ps, F64.rs, F64.fr, fun a => f64 n a.1⟩
  | 0 => ⟨by kernel_rfl, fun a r h => by cases h⟩
  | n + 1 => cal_of_fn F64 (code := bodyOf Try.f64) Try.func64 (by kernel_rfl) (by kernel_rfl) call64 htabR (cs := cs64 (f64 n) n) (fun c hc => by
      simp only [cs64, List.mem_cons, List.not_mem_nil, or_false] at hc
      rcases hc with rfl
      · exact (okr64 n)) (fun _ => mixed) (by kernel_rfl) (by kernel_rfl) (by decide) (fun x => ⟨n, w64 (f64 n) n x⟩)
theorem ok64 (n : Nat) : Cal.Ok Try.prog ⟨64, F64.ps, F64.rs, F64.fr, fun a => f64 n a.1⟩ := (okr64 n)
-- tranship/term.sort
def o143_0 (k1 : Int → Bool → Option Int) (a0 : Int) : Option Int :=
  if (decide (a0 = (1 : Int))) then
    k1 a0 true
  else
    k1 a0 (decide (a0 = (2 : Int)))
def o143_1 (t0 : Int) (t3 : Bool) : Option Int :=
  if t3 then
    some (0 : Int)
  else
    if (decide (t0 ≤ (12 : Int))) then
      some (1 : Int)
    else
      some (2 : Int)
def c143_1 (t0 : Int) (t3 : Bool) : Option Int :=
  o143_1 t0 t3
def f143 (a0 : Int) : Option Int := o143_0 (c143_1) a0
def an143 : An := (.n none [] 0 .z (.n none [] 0 (.n none [] 0 (.n (some 1) [(0, .one .c), (3, .one .c)] 0 .z .z) .z) .z))
def F143 : Fn := { f := 143, a := an143, vars := [.tmp 2], ps := [.sc .int], rs := [.sc .int], own := false, fr := true, nt := 13, D := 3, loops := [] }
def cs143 : List Cal := []
def st143_1 (t0 : Int) (t3 : Bool) : SS := ⟨[(0, .v (.one (.c (.int t0) true))), (3, .v (.one (.c (.bool t3) true)))], [], 0⟩
theorem p143_0 (lab : Nat → SS → Option (RT.den F143.rs)) (x : PTs.den F143.ps) : F143.body (bodyOf Try.f143) tabR tyR true cs143 lab x = o143_0 (fun t0 t3 => lab 1 (st143_1 t0 t3)) x.1 := by kernel_rfl
theorem p143_1 (lab : Nat → SS → Option (RT.den F143.rs)) (t0 : Int) (t3 : Bool) : F143.at (bodyOf Try.f143) tabR tyR true cs143 lab 1 (st143_1 t0 t3) = o143_1 t0 t3 := by kernel_rfl
theorem n143_1 (rec : Nat → SS → Option (RT.den F143.rs)) (d : Nat) (t0 : Int) (t3 : Bool) : F143.labD (bodyOf Try.f143) tabR tyR true cs143 rec (d + 1) 1 (st143_1 t0 t3) = c143_1 t0 t3 := by
  show F143.labD (bodyOf Try.f143) tabR tyR true cs143 rec (d + 1) 1 _ = _
  rw [Fn.labD_succ, p143_1]
  rfl
theorem w143 (x : PTs.den F143.ps) : F143.body (bodyOf Try.f143) tabR tyR true cs143 (F143.labX (bodyOf Try.f143) tabR tyR true cs143 (F143.labM (bodyOf Try.f143) tabR tyR true cs143 0) F143.D) x = o143_0 (c143_1) x.1 := by
  have e1 : ∀ t0 t3, F143.labX (bodyOf Try.f143) tabR tyR true cs143 (F143.labM (bodyOf Try.f143) tabR tyR true cs143 0) 3 1 (st143_1 t0 t3) = c143_1 t0 t3 := fun t0 t3 => (Fn.labX_step _ _ _ _ _ _ _ _ _ _ (by kernel_rfl)).trans (n143_1 (F143.labM (bodyOf Try.f143) tabR tyR true cs143 0) 2 t0 t3)
  show F143.body (bodyOf Try.f143) tabR tyR true cs143 (F143.labX (bodyOf Try.f143) tabR tyR true cs143 (F143.labM (bodyOf Try.f143) tabR tyR true cs143 0) 3) x = _
  rw [p143_0]
  simp only [e1]
  try rfl
theorem call143 : Callable Try.prog 143 := callable_of Try.func143 (by kernel_rfl) (by kernel_rfl)
theorem ok143 : Cal.Ok Try.prog ⟨143, F143.ps, F143.rs, F143.fr, fun a => f143 a.1⟩ :=
  cal_of_fn F143 (code := bodyOf Try.f143) Try.func143 (by kernel_rfl) (by kernel_rfl) call143 htabR (cs := cs143) (fun c hc => by simp only [cs143, List.not_mem_nil] at hc) (fun _ => mixed) (by kernel_rfl) (by kernel_rfl) (by decide) (fun x => ⟨0, w143 x⟩)
-- tranship/term.level
def o150_0 (a0 : Int) : Option Bool :=
  if (decide ((0 : Int) ≤ a0)) then
    some (decide (a0 ≤ (1000 : Int)))
  else
    some false
def f150 (a0 : Int) : Option Bool := o150_0 a0
def an150 : An := .z
def F150 : Fn := { f := 150, a := an150, vars := [.tmp 2], ps := [.sc .int], rs := [.sc .bool], own := false, fr := true, nt := 9, D := 2, loops := [] }
def cs150 : List Cal := []
theorem p150_0 (lab : Nat → SS → Option (RT.den F150.rs)) (x : PTs.den F150.ps) : F150.body (bodyOf Try.f150) tabR tyR true cs150 lab x = o150_0 x.1 := by kernel_rfl
theorem w150 (x : PTs.den F150.ps) : F150.body (bodyOf Try.f150) tabR tyR true cs150 (F150.labX (bodyOf Try.f150) tabR tyR true cs150 (F150.labM (bodyOf Try.f150) tabR tyR true cs150 0) F150.D) x = o150_0 x.1 := by
  show F150.body (bodyOf Try.f150) tabR tyR true cs150 (F150.labX (bodyOf Try.f150) tabR tyR true cs150 (F150.labM (bodyOf Try.f150) tabR tyR true cs150 0) 2) x = _
  rw [p150_0]
theorem call150 : Callable Try.prog 150 := callable_of Try.func150 (by kernel_rfl) (by kernel_rfl)
theorem ok150 : Cal.Ok Try.prog ⟨150, F150.ps, F150.rs, F150.fr, fun a => f150 a.1⟩ :=
  cal_of_fn F150 (code := bodyOf Try.f150) Try.func150 (by kernel_rfl) (by kernel_rfl) call150 htabR (cs := cs150) (fun c hc => by simp only [cs150, List.not_mem_nil] at hc) (fun _ => mixed) (by kernel_rfl) (by kernel_rfl) (by decide) (fun x => ⟨0, w150 x⟩)
-- tranship/term.numbers
def o144_0 (k1 : Tm → Int → Bool → Option Bool) (a0 : Tm) : Option Bool :=
  if (decide (a0.kind = (1 : Int))) then
    k1 a0 a0.kind (decide (a0.kind = (1 : Int)))
  else
    if (decide (a0.kind = (10 : Int))) then
      k1 a0 a0.kind (decide (a0.kind = (10 : Int)))
    else
      if (decide (a0.kind = (11 : Int))) then
        k1 a0 a0.kind (decide (a0.kind = (11 : Int)))
      else
        k1 a0 a0.kind (decide (a0.kind = (12 : Int)))
def o144_1 (k2 : Tm → Int → Bool → Option Bool) (t1 : Tm) (t4 : Int) (t5 : Bool) : Option Bool :=
  if t5 then
    (f150 t1.i).bind fun x1 =>
    if x1 then
      if (decide (t1.j = (0 : Int))) then
        some (decide (t1.n = (0 : Int)))
      else
        some false
    else
      some false
  else
    if (decide (t4 = (2 : Int))) then
      if (decide ((0 : Int) ≤ t1.i)) then
        if (decide (t1.i ≤ (2147483647 : Int))) then
          if (decide (t1.j = (0 : Int))) then
            some (decide (t1.n = (0 : Int)))
          else
            some false
        else
          some false
      else
        some false
    else
      if (decide (t4 = (3 : Int))) then
        k2 t1 t4 (decide (t4 = (3 : Int)))
      else
        if (decide (t4 = (4 : Int))) then
          k2 t1 t4 (decide (t4 = (4 : Int)))
        else
          if (decide (t4 = (5 : Int))) then
            k2 t1 t4 (decide (t4 = (5 : Int)))
          else
            if (decide (t4 = (6 : Int))) then
              k2 t1 t4 (decide (t4 = (6 : Int)))
            else
              if (decide (t4 = (7 : Int))) then
                k2 t1 t4 (decide (t4 = (7 : Int)))
              else
                if (decide (t4 = (8 : Int))) then
                  k2 t1 t4 (decide (t4 = (8 : Int)))
                else
                  k2 t1 t4 (decide (t4 = (9 : Int)))
def o144_2 (t1 : Tm) (t4 : Int) (t43 : Bool) : Option Bool :=
  if t43 then
    (f150 t1.i).bind fun x2 =>
    if x2 then
      (f150 t1.j).bind fun x3 =>
      if x3 then
        some (decide (t1.n = (0 : Int)))
      else
        some false
    else
      some false
  else
    if (decide (t4 = (23 : Int))) then
      (f150 t1.i).bind fun x4 =>
      if x4 then
        (f150 t1.j).bind fun x5 =>
        some x5
      else
        some false
    else
      if (decide (t1.i = (0 : Int))) then
        if (decide (t1.j = (0 : Int))) then
          some (decide (t1.n = (0 : Int)))
        else
          some false
      else
        some false
def c144_2 (t1 : Tm) (t4 : Int) (t43 : Bool) : Option Bool :=
  o144_2 t1 t4 t43
def c144_1 (t1 : Tm) (t4 : Int) (t5 : Bool) : Option Bool :=
  o144_1 (c144_2) t1 t4 t5
def f144 (a0 : Tm) : Option Bool := o144_0 (c144_1) a0
def an144 : An := (.n none [] 0 .z (.n none [] 0 (.n none [] 0 .z (.n none [] 0 (.n (some 1) [(1, .ps 0 .tm false), (4, .one .c), (5, .one .c)] 1 .z (.n none [] 0 .z (.n none [] 0 .z (.n none [] 0 .z (.n (some 2) [(1, .ps 0 .tm false), (4, .one .c), (43, .one .c)] 1 .z .z))))) .z)) .z))
def F144 : Fn := { f := 144, a := an144, vars := [.tmp 2], ps := [.st .tm], rs := [.sc .bool], own := false, fr := true, nt := 87, D := 4, loops := [] }
def cs144 : List Cal := [⟨150, [.sc .int], [.sc .bool], true, fun a => f150 a.1⟩]
def st144_1 (t1 : Tm) (t4 : Int) (t5 : Bool) : SS := ⟨[(1, .v (.one (.ptr 0 0))), (4, .v (.one (.c (.int t4) true))), (5, .v (.one (.c (.bool t5) true)))], [(0, some (.bst .tm t1 false))], 1⟩
def st144_2 (t1 : Tm) (t4 : Int) (t43 : Bool) : SS := ⟨[(1, .v (.one (.ptr 0 0))), (4, .v (.one (.c (.int t4) true))), (43, .v (.one (.c (.bool t43) true)))], [(0, some (.bst .tm t1 false))], 1⟩
theorem p144_0 (lab : Nat → SS → Option (RT.den F144.rs)) (x : PTs.den F144.ps) : F144.body (bodyOf Try.f144) tabR tyR true cs144 lab x = o144_0 (fun t1 t4 t5 => lab 1 (st144_1 t1 t4 t5)) x.1 := by kernel_rfl
theorem p144_1 (lab : Nat → SS → Option (RT.den F144.rs)) (t1 : Tm) (t4 : Int) (t5 : Bool) : F144.at (bodyOf Try.f144) tabR tyR true cs144 lab 1 (st144_1 t1 t4 t5) = o144_1 (fun t1 t4 t43 => lab 2 (st144_2 t1 t4 t43)) t1 t4 t5 := by kernel_rfl
theorem p144_2 (lab : Nat → SS → Option (RT.den F144.rs)) (t1 : Tm) (t4 : Int) (t43 : Bool) : F144.at (bodyOf Try.f144) tabR tyR true cs144 lab 2 (st144_2 t1 t4 t43) = o144_2 t1 t4 t43 := by kernel_rfl
theorem n144_2 (rec : Nat → SS → Option (RT.den F144.rs)) (d : Nat) (t1 : Tm) (t4 : Int) (t43 : Bool) : F144.labD (bodyOf Try.f144) tabR tyR true cs144 rec (d + 1) 2 (st144_2 t1 t4 t43) = c144_2 t1 t4 t43 := by
  show F144.labD (bodyOf Try.f144) tabR tyR true cs144 rec (d + 1) 2 _ = _
  rw [Fn.labD_succ, p144_2]
  rfl
theorem n144_1 (rec : Nat → SS → Option (RT.den F144.rs)) (d : Nat) (t1 : Tm) (t4 : Int) (t5 : Bool) : F144.labD (bodyOf Try.f144) tabR tyR true cs144 rec (d + 2) 1 (st144_1 t1 t4 t5) = c144_1 t1 t4 t5 := by
  have e2 : ∀ t1 t4 t43, F144.labX (bodyOf Try.f144) tabR tyR true cs144 rec (d + 1) 2 (st144_2 t1 t4 t43) = c144_2 t1 t4 t43 := fun t1 t4 t43 => (Fn.labX_step _ _ _ _ _ _ _ _ _ _ (by kernel_rfl)).trans (n144_2 rec d t1 t4 t43)
  show F144.labD (bodyOf Try.f144) tabR tyR true cs144 rec ((d + 1) + 1) 1 _ = _
  rw [Fn.labD_succ, p144_1]
  simp only [e2]
  rfl
theorem w144 (x : PTs.den F144.ps) : F144.body (bodyOf Try.f144) tabR tyR true cs144 (F144.labX (bodyOf Try.f144) tabR tyR true cs144 (F144.labM (bodyOf Try.f144) tabR tyR true cs144 0) F144.D) x = o144_0 (c144_1) x.1 := by
  have e1 : ∀ t1 t4 t5, F144.labX (bodyOf Try.f144) tabR tyR true cs144 (F144.labM (bodyOf Try.f144) tabR tyR true cs144 0) 4 1 (st144_1 t1 t4 t5) = c144_1 t1 t4 t5 := fun t1 t4 t5 => (Fn.labX_step _ _ _ _ _ _ _ _ _ _ (by kernel_rfl)).trans (n144_1 (F144.labM (bodyOf Try.f144) tabR tyR true cs144 0) 2 t1 t4 t5)
  show F144.body (bodyOf Try.f144) tabR tyR true cs144 (F144.labX (bodyOf Try.f144) tabR tyR true cs144 (F144.labM (bodyOf Try.f144) tabR tyR true cs144 0) 4) x = _
  rw [p144_0]
  simp only [e1]
  try rfl
theorem call144 : Callable Try.prog 144 := callable_of Try.func144 (by kernel_rfl) (by kernel_rfl)
theorem ok144 : Cal.Ok Try.prog ⟨144, F144.ps, F144.rs, F144.fr, fun a => f144 a.1⟩ :=
  cal_of_fn F144 (code := bodyOf Try.f144) Try.func144 (by kernel_rfl) (by kernel_rfl) call144 htabR (cs := cs144) (fun c hc => by
      simp only [cs144, List.mem_cons, List.not_mem_nil, or_false] at hc
      rcases hc with rfl
      · exact ok150) (fun _ => mixed) (by kernel_rfl) (by kernel_rfl) (by decide) (fun x => ⟨0, w144 x⟩)
-- tranship/term.right
def o128_0 (s128 : Tm → Int → Option Bool) (n : Nat) (k1 : Tm → Int → Option Bool) (a0 : Tm) (a1 : Int) : Option Bool :=
  (f143 a0.kind).bind fun x1 =>
  if (!decide (a1 = (0 : Int))) then
    if (!decide (x1 = (0 : Int))) then
      if (!decide (x1 = a1)) then
        some false
      else
        k1 a0 x1
    else
      k1 a0 x1
  else
    k1 a0 x1
def o128_1 (s128 : Tm → Int → Option Bool) (n : Nat) (k2 : Tm → Int → Option Bool) (t2 : Tm) (t5 : Int) : Option Bool :=
  (f57 t2.kind t2.n).bind fun x2 =>
  if (!decide ((t2.kids.length : Int) = x2)) then
    some false
  else
    (f144 t2).bind fun x3 =>
    if (!x3) then
      some false
    else
      k2 t2 t5
def o128_2 (s128 : Tm → Int → Option Bool) (n : Nat) (k3 : Tm → Int → (List Tm) → Int → Int → Option Bool) (t2 : Tm) (t5 : Int) : Option Bool :=
  k3 t2 t5 t2.kids (t2.kids.length : Int) (0 : Int)
def o128_3 (s128 : Tm → Int → Option Bool) (n : Nat) (k3 : Tm → Int → (List Tm) → Int → Int → Option Bool) (t2 : Tm) (t5 : Int) (t38 : List Tm) (t39 : Int) (t40 : Int) : Option Bool :=
  if (decide (t40 < t39)) then
    atI t38 t40 fun x4 =>
    if (decide (t2.kind = (12 : Int))) then
      if (decide (t40 = (2 : Int))) then
        (s128 x4 (2 : Int)).bind fun x5 =>
        if (!x5) then
          some false
        else
          ckI (t40 + (1 : Int)) <|
          k3 t2 t5 t38 t39 (t40 + (1 : Int))
      else
        (s128 x4 t5).bind fun x6 =>
        if (!x6) then
          some false
        else
          ckI (t40 + (1 : Int)) <|
          k3 t2 t5 t38 t39 (t40 + (1 : Int))
    else
      (s128 x4 t5).bind fun x7 =>
      if (!x7) then
        some false
      else
        ckI (t40 + (1 : Int)) <|
        k3 t2 t5 t38 t39 (t40 + (1 : Int))
  else
    some true
def c128_2 (s128 : Tm → Int → Option Bool) (n : Nat) (k3 : Tm → Int → (List Tm) → Int → Int → Option Bool) (t2 : Tm) (t5 : Int) : Option Bool :=
  o128_2 s128 n k3 t2 t5
def c128_1 (s128 : Tm → Int → Option Bool) (n : Nat) (k3 : Tm → Int → (List Tm) → Int → Int → Option Bool) (t2 : Tm) (t5 : Int) : Option Bool :=
  o128_1 s128 n (c128_2 s128 n k3) t2 t5
def l128_3 (s128 : Tm → Int → Option Bool) (n : Nat) : Nat → Tm → Int → (List Tm) → Int → Int → Option Bool
  | 0, _, _, _, _, _ => none
  | m + 1, t2, t5, t38, t39, t40 => o128_3 s128 n (l128_3 s128 n m) t2 t5 t38 t39 t40
def f128 : Nat → Tm → Int → Option Bool
  | 0, _, _ => none
  | n + 1, a0, a1 => o128_0 (f128 n) n (c128_1 (f128 n) n (l128_3 (f128 n) n n)) a0 a1
def an128 : An := (.n none [] 0 .z (.n none [] 0 .z (.n (some 1) [(2, .ps 0 .tm false), (5, .one .c)] 1 .z (.n (some 2) [(2, .ps 0 .tm false), (5, .one .c)] 1 .z (.n none [] 0 (.n none [] 0 .z (.n none [] 0 (.n (some 3) [(2, .ps 0 .tm false), (5, .one .c), (38, .one (.d .tm false)), (39, .one .c), (40, .one .c)] 1 .z .z) .z)) .z)))))
def F128 : Fn := { f := 128, a := an128, vars := [.tmp 4], ps := [.st .tm, .sc .int], rs := [.sc .bool], own := false, fr := true, nt := 58, D := 5, loops := [3] }
def cs128 (s128 : Tm → Int → Option Bool) (n : Nat) : List Cal := [⟨57, [.sc .int, .sc .int], [.sc .int], true, fun a => f57 a.1 a.2.1⟩, ⟨128, [.st .tm, .sc .int], [.sc .bool], true, fun a => s128 a.1 a.2.1⟩, ⟨143, [.sc .int], [.sc .int], true, fun a => f143 a.1⟩, ⟨144, [.st .tm], [.sc .bool], true, fun a => f144 a.1⟩]
def st128_1 (t2 : Tm) (t5 : Int) : SS := ⟨[(2, .v (.one (.ptr 0 0))), (5, .v (.one (.c (.int t5) true)))], [(0, some (.bst .tm t2 false))], 1⟩
def st128_2 (t2 : Tm) (t5 : Int) : SS := ⟨[(2, .v (.one (.ptr 0 0))), (5, .v (.one (.c (.int t5) true)))], [(0, some (.bst .tm t2 false))], 1⟩
def st128_3 (t2 : Tm) (t5 : Int) (t38 : List Tm) (t39 : Int) (t40 : Int) : SS := ⟨[(2, .v (.one (.ptr 0 0))), (5, .v (.one (.c (.int t5) true))), (38, .v (.one (.c (.sl .tm t38) false))), (39, .v (.one (.c (.int t39) true))), (40, .v (.one (.c (.int t40) true)))], [(0, some (.bst .tm t2 false))], 1⟩
theorem p128_0 (s128 : Tm → Int → Option Bool) (n : Nat) (lab : Nat → SS → Option (RT.den F128.rs)) (x : PTs.den F128.ps) : F128.body (bodyOf Try.f128) tabR tyR true (cs128 s128 n) lab x = o128_0 s128 n (fun t2 t5 => lab 1 (st128_1 t2 t5)) x.1 x.2.1 := by kernel_rfl
theorem p128_1 (s128 : Tm → Int → Option Bool) (n : Nat) (lab : Nat → SS → Option (RT.den F128.rs)) (t2 : Tm) (t5 : Int) : F128.at (bodyOf Try.f128) tabR tyR true (cs128 s128 n) lab 1 (st128_1 t2 t5) = o128_1 s128 n (fun t2 t5 => lab 2 (st128_2 t2 t5)) t2 t5 := by kernel_rfl
theorem p128_2 (s128 : Tm → Int → Option Bool) (n : Nat) (lab : Nat → SS → Option (RT.den F128.rs)) (t2 : Tm) (t5 : Int) : F128.at (bodyOf Try.f128) tabR tyR true (cs128 s128 n) lab 2 (st128_2 t2 t5) = o128_2 s128 n (fun t2 t5 t38 t39 t40 => lab 3 (st128_3 t2 t5 t38 t39 t40)) t2 t5 := by kernel_rfl
theorem p128_3 (s128 : Tm → Int → Option Bool) (n : Nat) (lab : Nat → SS → Option (RT.den F128.rs)) (t2 : Tm) (t5 : Int) (t38 : List Tm) (t39 : Int) (t40 : Int) : F128.at (bodyOf Try.f128) tabR tyR true (cs128 s128 n) lab 3 (st128_3 t2 t5 t38 t39 t40) = o128_3 s128 n (fun t2 t5 t38 t39 t40 => lab 3 (st128_3 t2 t5 t38 t39 t40)) t2 t5 t38 t39 t40 := by kernel_rfl
theorem n128_2 (s128 : Tm → Int → Option Bool) (n : Nat) (rec : Nat → SS → Option (RT.den F128.rs)) (k3 : Tm → Int → (List Tm) → Int → Int → Option Bool) (h3 : ∀ t2 t5 t38 t39 t40, rec 3 (st128_3 t2 t5 t38 t39 t40) = k3 t2 t5 t38 t39 t40) (d : Nat) (t2 : Tm) (t5 : Int) : F128.labD (bodyOf Try.f128) tabR tyR true (cs128 s128 n) rec (d + 1) 2 (st128_2 t2 t5) = c128_2 s128 n k3 t2 t5 := by
  have e3 : ∀ t2 t5 t38 t39 t40, F128.labX (bodyOf Try.f128) tabR tyR true (cs128 s128 n) rec d 3 (st128_3 t2 t5 t38 t39 t40) = k3 t2 t5 t38 t39 t40 := fun t2 t5 t38 t39 t40 => (Fn.labX_loop _ _ _ _ _ _ _ _ _ _ (by kernel_rfl)).trans (h3 t2 t5 t38 t39 t40)
  show F128.labD (bodyOf Try.f128) tabR tyR true (cs128 s128 n) rec (d + 1) 2 _ = _
  rw [Fn.labD_succ, p128_2]
  simp only [e3]
  rfl
theorem n128_1 (s128 : Tm → Int → Option Bool) (n : Nat) (rec : Nat → SS → Option (RT.den F128.rs)) (k3 : Tm → Int → (List Tm) → Int → Int → Option Bool) (h3 : ∀ t2 t5 t38 t39 t40, rec 3 (st128_3 t2 t5 t38 t39 t40) = k3 t2 t5 t38 t39 t40) (d : Nat) (t2 : Tm) (t5 : Int) : F128.labD (bodyOf Try.f128) tabR tyR true (cs128 s128 n) rec (d + 2) 1 (st128_1 t2 t5) = c128_1 s128 n k3 t2 t5 := by
  have e2 : ∀ t2 t5, F128.labX (bodyOf Try.f128) tabR tyR true (cs128 s128 n) rec (d + 1) 2 (st128_2 t2 t5) = c128_2 s128 n k3 t2 t5 := fun t2 t5 => (Fn.labX_step _ _ _ _ _ _ _ _ _ _ (by kernel_rfl)).trans (n128_2 s128 n rec k3 h3 d t2 t5)
  show F128.labD (bodyOf Try.f128) tabR tyR true (cs128 s128 n) rec ((d + 1) + 1) 1 _ = _
  rw [Fn.labD_succ, p128_1]
  simp only [e2]
  rfl
theorem m128_3 (s128 : Tm → Int → Option Bool) (n : Nat) : ∀ m : Nat, (∀ t2 t5 t38 t39 t40, F128.labM (bodyOf Try.f128) tabR tyR true (cs128 s128 n) m 3 (st128_3 t2 t5 t38 t39 t40) = l128_3 s128 n m t2 t5 t38 t39 t40) := by
  intro m
  induction m with
  | zero => exact fun _ _ _ _ _ => rfl
  | succ m ih =>
    intro t2 t5 t38 t39 t40
    have e3 : ∀ t2 t5 t38 t39 t40, F128.labX (bodyOf Try.f128) tabR tyR true (cs128 s128 n) (F128.labM (bodyOf Try.f128) tabR tyR true (cs128 s128 n) m) 4 3 (st128_3 t2 t5 t38 t39 t40) = (l128_3 s128 n m) t2 t5 t38 t39 t40 := fun t2 t5 t38 t39 t40 => (Fn.labX_loop _ _ _ _ _ _ _ _ _ _ (by kernel_rfl)).trans (ih t2 t5 t38 t39 t40)
    rw [Fn.labM_succ]
    show F128.labD (bodyOf Try.f128) tabR tyR true (cs128 s128 n) (F128.labM (bodyOf Try.f128) tabR tyR true (cs128 s128 n) m) (4 + 1) 3 _ = _
    rw [Fn.labD_succ, p128_3]
    simp only [e3]
    rfl
theorem w128 (s128 : Tm → Int → Option Bool) (n : Nat) (x : PTs.den F128.ps) : F128.body (bodyOf Try.f128) tabR tyR true (cs128 s128 n) (F128.labX (bodyOf Try.f128) tabR tyR true (cs128 s128 n) (F128.labM (bodyOf Try.f128) tabR tyR true (cs128 s128 n) n) F128.D) x = o128_0 s128 n (c128_1 s128 n (l128_3 s128 n n)) x.1 x.2.1 := by
  have e1 : ∀ t2 t5, F128.labX (bodyOf Try.f128) tabR tyR true (cs128 s128 n) (F128.labM (bodyOf Try.f128) tabR tyR true (cs128 s128 n) n) 5 1 (st128_1 t2 t5) = c128_1 s128 n (l128_3 s128 n n) t2 t5 := fun t2 t5 => (Fn.labX_step _ _ _ _ _ _ _ _ _ _ (by kernel_rfl)).trans (n128_1 s128 n (F128.labM (bodyOf Try.f128) tabR tyR true (cs128 s128 n) n) (l128_3 s128 n n) (m128_3 s128 n n) 3 t2 t5)
  show F128.body (bodyOf Try.f128) tabR tyR true (cs128 s128 n) (F128.labX (bodyOf Try.f128) tabR tyR true (cs128 s128 n) (F128.labM (bodyOf Try.f128) tabR tyR true (cs128 s128 n) n) 5) x = _
  rw [p128_0]
  simp only [e1]
  try rfl
theorem call128 : Callable Try.prog 128 := callable_of Try.func128 (by kernel_rfl) (by kernel_rfl)
theorem okr128 : ∀ n : Nat, Cal.Ok Try.prog ⟨128, F128.ps, F128.rs, F128.fr, fun a => f128 n a.1 a.2.1⟩
  | 0 => ⟨by kernel_rfl, fun a r h => by cases h⟩
  | n + 1 => cal_of_fn F128 (code := bodyOf Try.f128) Try.func128 (by kernel_rfl) (by kernel_rfl) call128 htabR (cs := cs128 (f128 n) n) (fun c hc => by
      simp only [cs128, List.mem_cons, List.not_mem_nil, or_false] at hc
      rcases hc with rfl | rfl | rfl | rfl
      · exact ok57
      · exact (okr128 n)
      · exact ok143
      · exact ok144) (fun _ => mixed) (by kernel_rfl) (by kernel_rfl) (by decide) (fun x => ⟨n, w128 (f128 n) n x⟩)
theorem ok128 (n : Nat) : Cal.Ok Try.prog ⟨128, F128.ps, F128.rs, F128.fr, fun a => f128 n a.1 a.2.1⟩ := (okr128 n)
-- tranship/term.Right
def o83_0 (n : Nat) (a0 : Tm) : Option Bool :=
  (f128 n a0 (0 : Int)).bind fun x1 =>
  some x1
def f83 (n : Nat) (a0 : Tm) : Option Bool := o83_0 n a0
def an83 : An := .z
def F83 : Fn := { f := 83, a := an83, vars := [.tmp 2], ps := [.st .tm], rs := [.sc .bool], own := false, fr := true, nt := 5, D := 2, loops := [] }
def cs83 (n : Nat) : List Cal := [⟨128, [.st .tm, .sc .int], [.sc .bool], true, fun a => f128 n a.1 a.2.1⟩]
theorem p83_0 (n : Nat) (lab : Nat → SS → Option (RT.den F83.rs)) (x : PTs.den F83.ps) : F83.body (bodyOf Try.f83) tabR tyR true (cs83 n) lab x = o83_0 n x.1 := by kernel_rfl
theorem w83 (n : Nat) (x : PTs.den F83.ps) : F83.body (bodyOf Try.f83) tabR tyR true (cs83 n) (F83.labX (bodyOf Try.f83) tabR tyR true (cs83 n) (F83.labM (bodyOf Try.f83) tabR tyR true (cs83 n) 0) F83.D) x = o83_0 n x.1 := by
  show F83.body (bodyOf Try.f83) tabR tyR true (cs83 n) (F83.labX (bodyOf Try.f83) tabR tyR true (cs83 n) (F83.labM (bodyOf Try.f83) tabR tyR true (cs83 n) 0) 2) x = _
  rw [p83_0]
theorem call83 : Callable Try.prog 83 := callable_of Try.func83 (by kernel_rfl) (by kernel_rfl)
theorem ok83 (n : Nat) : Cal.Ok Try.prog ⟨83, F83.ps, F83.rs, F83.fr, fun a => f83 n a.1⟩ :=
  cal_of_fn F83 (code := bodyOf Try.f83) Try.func83 (by kernel_rfl) (by kernel_rfl) call83 htabR (cs := cs83 n) (fun c hc => by
      simp only [cs83, List.mem_cons, List.not_mem_nil, or_false] at hc
      rcases hc with rfl
      · exact ok128 n) (fun _ => mixed) (by kernel_rfl) (by kernel_rfl) (by decide) (fun x => ⟨0, w83 n x⟩)
-- tranship/term.Marked
def o84_0 (n : Nat) (a0 : Tm) : Option Bool :=
  (f128 n a0 (1 : Int)).bind fun x1 =>
  some x1
def f84 (n : Nat) (a0 : Tm) : Option Bool := o84_0 n a0
def an84 : An := .z
def F84 : Fn := { f := 84, a := an84, vars := [.tmp 2], ps := [.st .tm], rs := [.sc .bool], own := false, fr := true, nt := 5, D := 2, loops := [] }
def cs84 (n : Nat) : List Cal := [⟨128, [.st .tm, .sc .int], [.sc .bool], true, fun a => f128 n a.1 a.2.1⟩]
theorem p84_0 (n : Nat) (lab : Nat → SS → Option (RT.den F84.rs)) (x : PTs.den F84.ps) : F84.body (bodyOf Try.f84) tabR tyR true (cs84 n) lab x = o84_0 n x.1 := by kernel_rfl
theorem w84 (n : Nat) (x : PTs.den F84.ps) : F84.body (bodyOf Try.f84) tabR tyR true (cs84 n) (F84.labX (bodyOf Try.f84) tabR tyR true (cs84 n) (F84.labM (bodyOf Try.f84) tabR tyR true (cs84 n) 0) F84.D) x = o84_0 n x.1 := by
  show F84.body (bodyOf Try.f84) tabR tyR true (cs84 n) (F84.labX (bodyOf Try.f84) tabR tyR true (cs84 n) (F84.labM (bodyOf Try.f84) tabR tyR true (cs84 n) 0) 2) x = _
  rw [p84_0]
theorem call84 : Callable Try.prog 84 := callable_of Try.func84 (by kernel_rfl) (by kernel_rfl)
theorem ok84 (n : Nat) : Cal.Ok Try.prog ⟨84, F84.ps, F84.rs, F84.fr, fun a => f84 n a.1⟩ :=
  cal_of_fn F84 (code := bodyOf Try.f84) Try.func84 (by kernel_rfl) (by kernel_rfl) call84 htabR (cs := cs84 n) (fun c hc => by
      simp only [cs84, List.mem_cons, List.not_mem_nil, or_false] at hc
      rcases hc with rfl
      · exact ok128 n) (fun _ => mixed) (by kernel_rfl) (by kernel_rfl) (by decide) (fun x => ⟨0, w84 n x⟩)
-- tranship/term.Plain
def o86_0 (n : Nat) (a0 : Tm) : Option Bool :=
  (f128 n a0 (2 : Int)).bind fun x1 =>
  some x1
def f86 (n : Nat) (a0 : Tm) : Option Bool := o86_0 n a0
def an86 : An := .z
def F86 : Fn := { f := 86, a := an86, vars := [.tmp 2], ps := [.st .tm], rs := [.sc .bool], own := false, fr := true, nt := 5, D := 2, loops := [] }
def cs86 (n : Nat) : List Cal := [⟨128, [.st .tm, .sc .int], [.sc .bool], true, fun a => f128 n a.1 a.2.1⟩]
theorem p86_0 (n : Nat) (lab : Nat → SS → Option (RT.den F86.rs)) (x : PTs.den F86.ps) : F86.body (bodyOf Try.f86) tabR tyR true (cs86 n) lab x = o86_0 n x.1 := by kernel_rfl
theorem w86 (n : Nat) (x : PTs.den F86.ps) : F86.body (bodyOf Try.f86) tabR tyR true (cs86 n) (F86.labX (bodyOf Try.f86) tabR tyR true (cs86 n) (F86.labM (bodyOf Try.f86) tabR tyR true (cs86 n) 0) F86.D) x = o86_0 n x.1 := by
  show F86.body (bodyOf Try.f86) tabR tyR true (cs86 n) (F86.labX (bodyOf Try.f86) tabR tyR true (cs86 n) (F86.labM (bodyOf Try.f86) tabR tyR true (cs86 n) 0) 2) x = _
  rw [p86_0]
theorem call86 : Callable Try.prog 86 := callable_of Try.func86 (by kernel_rfl) (by kernel_rfl)
theorem ok86 (n : Nat) : Cal.Ok Try.prog ⟨86, F86.ps, F86.rs, F86.fr, fun a => f86 n a.1⟩ :=
  cal_of_fn F86 (code := bodyOf Try.f86) Try.func86 (by kernel_rfl) (by kernel_rfl) call86 htabR (cs := cs86 n) (fun c hc => by
      simp only [cs86, List.mem_cons, List.not_mem_nil, or_false] at hc
      rcases hc with rfl
      · exact ok128 n) (fun _ => mixed) (by kernel_rfl) (by kernel_rfl) (by decide) (fun x => ⟨0, w86 n x⟩)
-- tranship/term.free
def o130_0 (s130 : Tm → Int → Option Int) (n : Nat) (k1 : Int → Tm → Int → (List Tm) → Int → Int → Option Int) (a0 : Tm) (a1 : Int) : Option Int :=
  if (decide (a0.kind = (2 : Int))) then
    ckI (a0.i + (1 : Int)) <|
    ckI ((a0.i + (1 : Int)) - a1) <|
    some (max ((a0.i + (1 : Int)) - a1) (0 : Int))
  else
    k1 a1 a0 (0 : Int) a0.kids (a0.kids.length : Int) (0 : Int)
def o130_1 (s130 : Tm → Int → Option Int) (n : Nat) (k1 : Int → Tm → Int → (List Tm) → Int → Int → Option Int) (t1 : Int) (t2 : Tm) (t5 : Int) (t18 : List Tm) (t19 : Int) (t20 : Int) : Option Int :=
  if (decide (t20 < t19)) then
    atI t18 t20 fun x1 =>
    (f113 t2.kind t20).bind fun x2 =>
    ckI (t1 + x2) <|
    (s130 x1 (t1 + x2)).bind fun x3 =>
    ckI (t20 + (1 : Int)) <|
    k1 t1 t2 (max t5 x3) t18 t19 (t20 + (1 : Int))
  else
    some t5
def l130_1 (s130 : Tm → Int → Option Int) (n : Nat) : Nat → Int → Tm → Int → (List Tm) → Int → Int → Option Int
  | 0, _, _, _, _, _, _ => none
  | m + 1, t1, t2, t5, t18, t19, t20 => o130_1 s130 n (l130_1 s130 n m) t1 t2 t5 t18 t19 t20
def f130 : Nat → Tm → Int → Option Int
  | 0, _, _ => none
  | n + 1, a0, a1 => o130_0 (f130 n) n (l130_1 (f130 n) n n) a0 a1
def an130 : An := (.n none [] 0 .z (.n none [] 0 .z (.n none [] 0 .z (.n none [] 0 (.n none [] 0 .z (.n none [] 0 (.n (some 1) [(1, .one .c), (2, .ps 0 .tm false), (5, .one .c), (18, .one (.d .tm false)), (19, .one .c), (20, .one .c)] 1 .z .z) .z)) .z))))
def F130 : Fn := { f := 130, a := an130, vars := [.tmp 4], ps := [.st .tm, .sc .int], rs := [.sc .int], own := false, fr := true, nt := 37, D := 3, loops := [1] }
def cs130 (s130 : Tm → Int → Option Int) (n : Nat) : List Cal := [⟨113, [.sc .int, .sc .int], [.sc .int], true, fun a => f113 a.1 a.2.1⟩, ⟨130, [.st .tm, .sc .int], [.sc .int], true, fun a => s130 a.1 a.2.1⟩]
def st130_1 (t1 : Int) (t2 : Tm) (t5 : Int) (t18 : List Tm) (t19 : Int) (t20 : Int) : SS := ⟨[(1, .v (.one (.c (.int t1) true))), (2, .v (.one (.ptr 0 0))), (5, .v (.one (.c (.int t5) true))), (18, .v (.one (.c (.sl .tm t18) false))), (19, .v (.one (.c (.int t19) true))), (20, .v (.one (.c (.int t20) true)))], [(0, some (.bst .tm t2 false))], 1⟩
theorem p130_0 (s130 : Tm → Int → Option Int) (n : Nat) (lab : Nat → SS → Option (RT.den F130.rs)) (x : PTs.den F130.ps) : F130.body (bodyOf Try.f130) tabR tyR true (cs130 s130 n) lab x = o130_0 s130 n (fun t1 t2 t5 t18 t19 t20 => lab 1 (st130_1 t1 t2 t5 t18 t19 t20)) x.1 x.2.1 := by kernel_rfl
theorem p130_1 (s130 : Tm → Int → Option Int) (n : Nat) (lab : Nat → SS → Option (RT.den F130.rs)) (t1 : Int) (t2 : Tm) (t5 : Int) (t18 : List Tm) (t19 : Int) (t20 : Int) : F130.at (bodyOf Try.f130) tabR tyR true (cs130 s130 n) lab 1 (st130_1 t1 t2 t5 t18 t19 t20) = o130_1 s130 n (fun t1 t2 t5 t18 t19 t20 => lab 1 (st130_1 t1 t2 t5 t18 t19 t20)) t1 t2 t5 t18 t19 t20 := by kernel_rfl
theorem m130_1 (s130 : Tm → Int → Option Int) (n : Nat) : ∀ m : Nat, (∀ t1 t2 t5 t18 t19 t20, F130.labM (bodyOf Try.f130) tabR tyR true (cs130 s130 n) m 1 (st130_1 t1 t2 t5 t18 t19 t20) = l130_1 s130 n m t1 t2 t5 t18 t19 t20) := by
  intro m
  induction m with
  | zero => exact fun _ _ _ _ _ _ => rfl
  | succ m ih =>
    intro t1 t2 t5 t18 t19 t20
    have e1 : ∀ t1 t2 t5 t18 t19 t20, F130.labX (bodyOf Try.f130) tabR tyR true (cs130 s130 n) (F130.labM (bodyOf Try.f130) tabR tyR true (cs130 s130 n) m) 2 1 (st130_1 t1 t2 t5 t18 t19 t20) = (l130_1 s130 n m) t1 t2 t5 t18 t19 t20 := fun t1 t2 t5 t18 t19 t20 => (Fn.labX_loop _ _ _ _ _ _ _ _ _ _ (by kernel_rfl)).trans (ih t1 t2 t5 t18 t19 t20)
    rw [Fn.labM_succ]
    show F130.labD (bodyOf Try.f130) tabR tyR true (cs130 s130 n) (F130.labM (bodyOf Try.f130) tabR tyR true (cs130 s130 n) m) (2 + 1) 1 _ = _
    rw [Fn.labD_succ, p130_1]
    simp only [e1]
    rfl
theorem w130 (s130 : Tm → Int → Option Int) (n : Nat) (x : PTs.den F130.ps) : F130.body (bodyOf Try.f130) tabR tyR true (cs130 s130 n) (F130.labX (bodyOf Try.f130) tabR tyR true (cs130 s130 n) (F130.labM (bodyOf Try.f130) tabR tyR true (cs130 s130 n) n) F130.D) x = o130_0 s130 n (l130_1 s130 n n) x.1 x.2.1 := by
  have e1 : ∀ t1 t2 t5 t18 t19 t20, F130.labX (bodyOf Try.f130) tabR tyR true (cs130 s130 n) (F130.labM (bodyOf Try.f130) tabR tyR true (cs130 s130 n) n) 3 1 (st130_1 t1 t2 t5 t18 t19 t20) = (l130_1 s130 n n) t1 t2 t5 t18 t19 t20 := fun t1 t2 t5 t18 t19 t20 => (Fn.labX_loop _ _ _ _ _ _ _ _ _ _ (by kernel_rfl)).trans ((m130_1 s130 n n) t1 t2 t5 t18 t19 t20)
  show F130.body (bodyOf Try.f130) tabR tyR true (cs130 s130 n) (F130.labX (bodyOf Try.f130) tabR tyR true (cs130 s130 n) (F130.labM (bodyOf Try.f130) tabR tyR true (cs130 s130 n) n) 3) x = _
  rw [p130_0]
  simp only [e1]
  try rfl
theorem call130 : Callable Try.prog 130 := callable_of Try.func130 (by kernel_rfl) (by kernel_rfl)
theorem okr130 : ∀ n : Nat, Cal.Ok Try.prog ⟨130, F130.ps, F130.rs, F130.fr, fun a => f130 n a.1 a.2.1⟩
  | 0 => ⟨by kernel_rfl, fun a r h => by cases h⟩
  | n + 1 => cal_of_fn F130 (code := bodyOf Try.f130) Try.func130 (by kernel_rfl) (by kernel_rfl) call130 htabR (cs := cs130 (f130 n) n) (fun c hc => by
      simp only [cs130, List.mem_cons, List.not_mem_nil, or_false] at hc
      rcases hc with rfl | rfl
      · exact ok113
      · exact (okr130 n)) (fun _ => mixed) (by kernel_rfl) (by kernel_rfl) (by decide) (fun x => ⟨n, w130 (f130 n) n x⟩)
theorem ok130 (n : Nat) : Cal.Ok Try.prog ⟨130, F130.ps, F130.rs, F130.fr, fun a => f130 n a.1 a.2.1⟩ := (okr130 n)
-- tranship/term.Free
def o89_0 (n : Nat) (a0 : Tm) : Option Int :=
  (f83 n a0).bind fun x1 =>
  if (!x1) then
    some (0 : Int)
  else
    (f130 n a0 (0 : Int)).bind fun x2 =>
    some x2
def f89 (n : Nat) (a0 : Tm) : Option Int := o89_0 n a0
def an89 : An := .z
def F89 : Fn := { f := 89, a := an89, vars := [.tmp 2], ps := [.st .tm], rs := [.sc .int], own := false, fr := true, nt := 8, D := 2, loops := [] }
def cs89 (n : Nat) : List Cal := [⟨83, [.st .tm], [.sc .bool], true, fun a => f83 n a.1⟩, ⟨130, [.st .tm, .sc .int], [.sc .int], true, fun a => f130 n a.1 a.2.1⟩]
theorem p89_0 (n : Nat) (lab : Nat → SS → Option (RT.den F89.rs)) (x : PTs.den F89.ps) : F89.body (bodyOf Try.f89) tabR tyR true (cs89 n) lab x = o89_0 n x.1 := by kernel_rfl
theorem w89 (n : Nat) (x : PTs.den F89.ps) : F89.body (bodyOf Try.f89) tabR tyR true (cs89 n) (F89.labX (bodyOf Try.f89) tabR tyR true (cs89 n) (F89.labM (bodyOf Try.f89) tabR tyR true (cs89 n) 0) F89.D) x = o89_0 n x.1 := by
  show F89.body (bodyOf Try.f89) tabR tyR true (cs89 n) (F89.labX (bodyOf Try.f89) tabR tyR true (cs89 n) (F89.labM (bodyOf Try.f89) tabR tyR true (cs89 n) 0) 2) x = _
  rw [p89_0]
theorem call89 : Callable Try.prog 89 := callable_of Try.func89 (by kernel_rfl) (by kernel_rfl)
theorem ok89 (n : Nat) : Cal.Ok Try.prog ⟨89, F89.ps, F89.rs, F89.fr, fun a => f89 n a.1⟩ :=
  cal_of_fn F89 (code := bodyOf Try.f89) Try.func89 (by kernel_rfl) (by kernel_rfl) call89 htabR (cs := cs89 n) (fun c hc => by
      simp only [cs89, List.mem_cons, List.not_mem_nil, or_false] at hc
      rcases hc with rfl | rfl
      · exact ok83 n
      · exact ok130 n) (fun _ => mixed) (by kernel_rfl) (by kernel_rfl) (by decide) (fun x => ⟨0, w89 n x⟩)
-- tranship/transhipkeep.weigh
def o114_0 (s114 : Tm → Int → Int → Option Int) (n : Nat) (k1 : Int → Int → Tm → Int → Int → Option Int) (a0 : Tm) (a1 : Int) (a2 : Int) : Option Int :=
  if (decide (a2 < (0 : Int))) then
    ckI (a1 + (1 : Int)) <|
    some (a1 + (1 : Int))
  else
    k1 a1 a2 a0 (1 : Int) (0 : Int)
def o114_1 (s114 : Tm → Int → Int → Option Int) (n : Nat) (k2 : Int → Int → Tm → Int → Int → Option Int) (t1 : Int) (t2 : Int) (t3 : Tm) (t7 : Int) (t8 : Int) : Option Int :=
  if (decide (t8 < (t3.kids.length : Int))) then
    if (decide (t7 ≤ t1)) then
      k2 t1 t2 t3 t7 t8
    else
      some t7
  else
    some t7
def o114_2 (s114 : Tm → Int → Int → Option Int) (n : Nat) (k1 : Int → Int → Tm → Int → Int → Option Int) (t1 : Int) (t2 : Int) (t3 : Tm) (t7 : Int) (t8 : Int) : Option Int :=
  atI t3.kids t8 fun x1 =>
  ckI (t1 - t7) <|
  ckI (t2 - (1 : Int)) <|
  (s114 x1 (t1 - t7) (t2 - (1 : Int))).bind fun x2 =>
  ckI (t7 + x2) <|
  ckI (t8 + (1 : Int)) <|
  k1 t1 t2 t3 (t7 + x2) (t8 + (1 : Int))
def c114_2 (s114 : Tm → Int → Int → Option Int) (n : Nat) (k1 : Int → Int → Tm → Int → Int → Option Int) (t1 : Int) (t2 : Int) (t3 : Tm) (t7 : Int) (t8 : Int) : Option Int :=
  o114_2 s114 n k1 t1 t2 t3 t7 t8
def l114_1 (s114 : Tm → Int → Int → Option Int) (n : Nat) : Nat → Int → Int → Tm → Int → Int → Option Int
  | 0, _, _, _, _, _ => none
  | m + 1, t1, t2, t3, t7, t8 => o114_1 s114 n (c114_2 s114 n (l114_1 s114 n m)) t1 t2 t3 t7 t8
def f114 : Nat → Tm → Int → Int → Option Int
  | 0, _, _, _ => none
  | n + 1, a0, a1, a2 => o114_0 (f114 n) n (l114_1 (f114 n) n n) a0 a1 a2
def an114 : An := (.n none [] 0 .z (.n none [] 0 .z (.n none [] 0 .z (.n none [] 0 (.n none [] 0 .z (.n none [] 0 (.n (some 1) [(1, .one .c), (2, .one .c), (3, .ps 0 .tm false), (7, .one .c), (8, .one .c)] 1 (.n (some 2) [(1, .one .c), (2, .one .c), (3, .ps 0 .tm false), (7, .one .c), (8, .one .c)] 1 .z .z) .z) .z)) .z))))
def F114 : Fn := { f := 114, a := an114, vars := [.tmp 6], ps := [.st .tm, .sc .int, .sc .int], rs := [.sc .int], own := false, fr := true, nt := 39, D := 4, loops := [1] }
def cs114 (s114 : Tm → Int → Int → Option Int) (n : Nat) : List Cal := [⟨114, [.st .tm, .sc .int, .sc .int], [.sc .int], true, fun a => s114 a.1 a.2.1 a.2.2.1⟩]
def st114_1 (t1 : Int) (t2 : Int) (t3 : Tm) (t7 : Int) (t8 : Int) : SS := ⟨[(1, .v (.one (.c (.int t1) true))), (2, .v (.one (.c (.int t2) true))), (3, .v (.one (.ptr 0 0))), (7, .v (.one (.c (.int t7) true))), (8, .v (.one (.c (.int t8) true)))], [(0, some (.bst .tm t3 false))], 1⟩
def st114_2 (t1 : Int) (t2 : Int) (t3 : Tm) (t7 : Int) (t8 : Int) : SS := ⟨[(1, .v (.one (.c (.int t1) true))), (2, .v (.one (.c (.int t2) true))), (3, .v (.one (.ptr 0 0))), (7, .v (.one (.c (.int t7) true))), (8, .v (.one (.c (.int t8) true)))], [(0, some (.bst .tm t3 false))], 1⟩
theorem p114_0 (s114 : Tm → Int → Int → Option Int) (n : Nat) (lab : Nat → SS → Option (RT.den F114.rs)) (x : PTs.den F114.ps) : F114.body (bodyOf Try.f114) tabR tyR true (cs114 s114 n) lab x = o114_0 s114 n (fun t1 t2 t3 t7 t8 => lab 1 (st114_1 t1 t2 t3 t7 t8)) x.1 x.2.1 x.2.2.1 := by kernel_rfl
theorem p114_1 (s114 : Tm → Int → Int → Option Int) (n : Nat) (lab : Nat → SS → Option (RT.den F114.rs)) (t1 : Int) (t2 : Int) (t3 : Tm) (t7 : Int) (t8 : Int) : F114.at (bodyOf Try.f114) tabR tyR true (cs114 s114 n) lab 1 (st114_1 t1 t2 t3 t7 t8) = o114_1 s114 n (fun t1 t2 t3 t7 t8 => lab 2 (st114_2 t1 t2 t3 t7 t8)) t1 t2 t3 t7 t8 := by kernel_rfl
theorem p114_2 (s114 : Tm → Int → Int → Option Int) (n : Nat) (lab : Nat → SS → Option (RT.den F114.rs)) (t1 : Int) (t2 : Int) (t3 : Tm) (t7 : Int) (t8 : Int) : F114.at (bodyOf Try.f114) tabR tyR true (cs114 s114 n) lab 2 (st114_2 t1 t2 t3 t7 t8) = o114_2 s114 n (fun t1 t2 t3 t7 t8 => lab 1 (st114_1 t1 t2 t3 t7 t8)) t1 t2 t3 t7 t8 := by kernel_rfl
theorem n114_2 (s114 : Tm → Int → Int → Option Int) (n : Nat) (rec : Nat → SS → Option (RT.den F114.rs)) (k1 : Int → Int → Tm → Int → Int → Option Int) (h1 : ∀ t1 t2 t3 t7 t8, rec 1 (st114_1 t1 t2 t3 t7 t8) = k1 t1 t2 t3 t7 t8) (d : Nat) (t1 : Int) (t2 : Int) (t3 : Tm) (t7 : Int) (t8 : Int) : F114.labD (bodyOf Try.f114) tabR tyR true (cs114 s114 n) rec (d + 1) 2 (st114_2 t1 t2 t3 t7 t8) = c114_2 s114 n k1 t1 t2 t3 t7 t8 := by
  have e1 : ∀ t1 t2 t3 t7 t8, F114.labX (bodyOf Try.f114) tabR tyR true (cs114 s114 n) rec d 1 (st114_1 t1 t2 t3 t7 t8) = k1 t1 t2 t3 t7 t8 := fun t1 t2 t3 t7 t8 => (Fn.labX_loop _ _ _ _ _ _ _ _ _ _ (by kernel_rfl)).trans (h1 t1 t2 t3 t7 t8)
  show F114.labD (bodyOf Try.f114) tabR tyR true (cs114 s114 n) rec (d + 1) 2 _ = _
  rw [Fn.labD_succ, p114_2]
  simp only [e1]
  rfl
theorem m114_1 (s114 : Tm → Int → Int → Option Int) (n : Nat) : ∀ m : Nat, (∀ t1 t2 t3 t7 t8, F114.labM (bodyOf Try.f114) tabR tyR true (cs114 s114 n) m 1 (st114_1 t1 t2 t3 t7 t8) = l114_1 s114 n m t1 t2 t3 t7 t8) := by
  intro m
  induction m with
  | zero => exact fun _ _ _ _ _ => rfl
  | succ m ih =>
    intro t1 t2 t3 t7 t8
    have e2 : ∀ t1 t2 t3 t7 t8, F114.labX (bodyOf Try.f114) tabR tyR true (cs114 s114 n) (F114.labM (bodyOf Try.f114) tabR tyR true (cs114 s114 n) m) 3 2 (st114_2 t1 t2 t3 t7 t8) = c114_2 s114 n (l114_1 s114 n m) t1 t2 t3 t7 t8 := fun t1 t2 t3 t7 t8 => (Fn.labX_step _ _ _ _ _ _ _ _ _ _ (by kernel_rfl)).trans (n114_2 s114 n (F114.labM (bodyOf Try.f114) tabR tyR true (cs114 s114 n) m) (l114_1 s114 n m) ih 2 t1 t2 t3 t7 t8)
    rw [Fn.labM_succ]
    show F114.labD (bodyOf Try.f114) tabR tyR true (cs114 s114 n) (F114.labM (bodyOf Try.f114) tabR tyR true (cs114 s114 n) m) (3 + 1) 1 _ = _
    rw [Fn.labD_succ, p114_1]
    simp only [e2]
    rfl
theorem w114 (s114 : Tm → Int → Int → Option Int) (n : Nat) (x : PTs.den F114.ps) : F114.body (bodyOf Try.f114) tabR tyR true (cs114 s114 n) (F114.labX (bodyOf Try.f114) tabR tyR true (cs114 s114 n) (F114.labM (bodyOf Try.f114) tabR tyR true (cs114 s114 n) n) F114.D) x = o114_0 s114 n (l114_1 s114 n n) x.1 x.2.1 x.2.2.1 := by
  have e1 : ∀ t1 t2 t3 t7 t8, F114.labX (bodyOf Try.f114) tabR tyR true (cs114 s114 n) (F114.labM (bodyOf Try.f114) tabR tyR true (cs114 s114 n) n) 4 1 (st114_1 t1 t2 t3 t7 t8) = (l114_1 s114 n n) t1 t2 t3 t7 t8 := fun t1 t2 t3 t7 t8 => (Fn.labX_loop _ _ _ _ _ _ _ _ _ _ (by kernel_rfl)).trans ((m114_1 s114 n n) t1 t2 t3 t7 t8)
  show F114.body (bodyOf Try.f114) tabR tyR true (cs114 s114 n) (F114.labX (bodyOf Try.f114) tabR tyR true (cs114 s114 n) (F114.labM (bodyOf Try.f114) tabR tyR true (cs114 s114 n) n) 4) x = _
  rw [p114_0]
  simp only [e1]
  try rfl
theorem call114 : Callable Try.prog 114 := callable_of Try.func114 (by kernel_rfl) (by kernel_rfl)
theorem okr114 : ∀ n : Nat, Cal.Ok Try.prog ⟨114, F114.ps, F114.rs, F114.fr, fun a => f114 n a.1 a.2.1 a.2.2.1⟩
  | 0 => ⟨by kernel_rfl, fun a r h => by cases h⟩
  | n + 1 => cal_of_fn F114 (code := bodyOf Try.f114) Try.func114 (by kernel_rfl) (by kernel_rfl) call114 htabR (cs := cs114 (f114 n) n) (fun c hc => by
      simp only [cs114, List.mem_cons, List.not_mem_nil, or_false] at hc
      rcases hc with rfl
      · exact (okr114 n)) (fun _ => mixed) (by kernel_rfl) (by kernel_rfl) (by decide) (fun x => ⟨n, w114 (f114 n) n x⟩)
theorem ok114 (n : Nat) : Cal.Ok Try.prog ⟨114, F114.ps, F114.rs, F114.fr, fun a => f114 n a.1 a.2.1 a.2.2.1⟩ := (okr114 n)
-- tranship/transhipkeep.Great
def o62_0 (n : Nat) (a0 : Tm) (a1 : Int) : Option Bool :=
  (f114 n a0 a1 (200 : Int)).bind fun x1 =>
  some (decide (a1 < x1))
def f62 (n : Nat) (a0 : Tm) (a1 : Int) : Option Bool := o62_0 n a0 a1
def an62 : An := .z
def F62 : Fn := { f := 62, a := an62, vars := [.tmp 4], ps := [.st .tm, .sc .int], rs := [.sc .bool], own := false, fr := true, nt := 10, D := 2, loops := [] }
def cs62 (n : Nat) : List Cal := [⟨114, [.st .tm, .sc .int, .sc .int], [.sc .int], true, fun a => f114 n a.1 a.2.1 a.2.2.1⟩]
theorem p62_0 (n : Nat) (lab : Nat → SS → Option (RT.den F62.rs)) (x : PTs.den F62.ps) : F62.body (bodyOf Try.f62) tabR tyR true (cs62 n) lab x = o62_0 n x.1 x.2.1 := by kernel_rfl
theorem w62 (n : Nat) (x : PTs.den F62.ps) : F62.body (bodyOf Try.f62) tabR tyR true (cs62 n) (F62.labX (bodyOf Try.f62) tabR tyR true (cs62 n) (F62.labM (bodyOf Try.f62) tabR tyR true (cs62 n) 0) F62.D) x = o62_0 n x.1 x.2.1 := by
  show F62.body (bodyOf Try.f62) tabR tyR true (cs62 n) (F62.labX (bodyOf Try.f62) tabR tyR true (cs62 n) (F62.labM (bodyOf Try.f62) tabR tyR true (cs62 n) 0) 2) x = _
  rw [p62_0]
theorem call62 : Callable Try.prog 62 := callable_of Try.func62 (by kernel_rfl) (by kernel_rfl)
theorem ok62 (n : Nat) : Cal.Ok Try.prog ⟨62, F62.ps, F62.rs, F62.fr, fun a => f62 n a.1 a.2.1⟩ :=
  cal_of_fn F62 (code := bodyOf Try.f62) Try.func62 (by kernel_rfl) (by kernel_rfl) call62 htabR (cs := cs62 n) (fun c hc => by
      simp only [cs62, List.mem_cons, List.not_mem_nil, or_false] at hc
      rcases hc with rfl
      · exact ok114 n) (fun _ => mixed) (by kernel_rfl) (by kernel_rfl) (by decide) (fun x => ⟨0, w62 n x⟩)
-- tranship/transhipref04.level
def o149_0 (a0 : Int) : Option Bool :=
  if (decide ((0 : Int) ≤ a0)) then
    some (decide (a0 ≤ (1000 : Int)))
  else
    some false
def f149 (a0 : Int) : Option Bool := o149_0 a0
def an149 : An := .z
def F149 : Fn := { f := 149, a := an149, vars := [.tmp 2], ps := [.sc .int], rs := [.sc .bool], own := false, fr := true, nt := 9, D := 2, loops := [] }
def cs149 : List Cal := []
theorem p149_0 (lab : Nat → SS → Option (RT.den F149.rs)) (x : PTs.den F149.ps) : F149.body (bodyOf Try.f149) tabR tyR true cs149 lab x = o149_0 x.1 := by kernel_rfl
theorem w149 (x : PTs.den F149.ps) : F149.body (bodyOf Try.f149) tabR tyR true cs149 (F149.labX (bodyOf Try.f149) tabR tyR true cs149 (F149.labM (bodyOf Try.f149) tabR tyR true cs149 0) F149.D) x = o149_0 x.1 := by
  show F149.body (bodyOf Try.f149) tabR tyR true cs149 (F149.labX (bodyOf Try.f149) tabR tyR true cs149 (F149.labM (bodyOf Try.f149) tabR tyR true cs149 0) 2) x = _
  rw [p149_0]
theorem call149 : Callable Try.prog 149 := callable_of Try.func149 (by kernel_rfl) (by kernel_rfl)
theorem ok149 : Cal.Ok Try.prog ⟨149, F149.ps, F149.rs, F149.fr, fun a => f149 a.1⟩ :=
  cal_of_fn F149 (code := bodyOf Try.f149) Try.func149 (by kernel_rfl) (by kernel_rfl) call149 htabR (cs := cs149) (fun c hc => by simp only [cs149, List.not_mem_nil] at hc) (fun _ => mixed) (by kernel_rfl) (by kernel_rfl) (by decide) (fun x => ⟨0, w149 x⟩)
-- tranship/transhipref04.numbers
def o140_0 (k1 : Tm → Int → Bool → Option Bool) (a0 : Tm) : Option Bool :=
  if (decide (a0.kind = (2 : Int))) then
    if (decide ((0 : Int) ≤ a0.i)) then
      if (decide (a0.i ≤ (2147483647 : Int))) then
        if (decide (a0.j = (0 : Int))) then
          some (decide (a0.n = (0 : Int)))
        else
          some false
      else
        some false
    else
      some false
  else
    if (decide (a0.kind = (3 : Int))) then
      k1 a0 a0.kind (decide (a0.kind = (3 : Int)))
    else
      if (decide (a0.kind = (4 : Int))) then
        k1 a0 a0.kind (decide (a0.kind = (4 : Int)))
      else
        if (decide (a0.kind = (5 : Int))) then
          k1 a0 a0.kind (decide (a0.kind = (5 : Int)))
        else
          if (decide (a0.kind = (6 : Int))) then
            k1 a0 a0.kind (decide (a0.kind = (6 : Int)))
          else
            if (decide (a0.kind = (7 : Int))) then
              k1 a0 a0.kind (decide (a0.kind = (7 : Int)))
            else
              if (decide (a0.kind = (8 : Int))) then
                k1 a0 a0.kind (decide (a0.kind = (8 : Int)))
              else
                k1 a0 a0.kind (decide (a0.kind = (9 : Int)))
def o140_1 (k2 : Tm → Int → Bool → Option Bool) (t1 : Tm) (t4 : Int) (t25 : Bool) : Option Bool :=
  if t25 then
    (f149 t1.i).bind fun x1 =>
    if x1 then
      (f149 t1.j).bind fun x2 =>
      if x2 then
        some (decide (t1.n = (0 : Int)))
      else
        some false
    else
      some false
  else
    if (decide (t4 = (1 : Int))) then
      k2 t1 t4 (decide (t4 = (1 : Int)))
    else
      if (decide (t4 = (10 : Int))) then
        k2 t1 t4 (decide (t4 = (10 : Int)))
      else
        if (decide (t4 = (11 : Int))) then
          k2 t1 t4 (decide (t4 = (11 : Int)))
        else
          k2 t1 t4 (decide (t4 = (12 : Int)))
def o140_2 (t1 : Tm) (t4 : Int) (t46 : Bool) : Option Bool :=
  if t46 then
    (f149 t1.i).bind fun x3 =>
    if x3 then
      if (decide (t1.j = (0 : Int))) then
        some (decide (t1.n = (0 : Int)))
      else
        some false
    else
      some false
  else
    if (decide (t4 = (23 : Int))) then
      (f149 t1.i).bind fun x4 =>
      if x4 then
        (f149 t1.j).bind fun x5 =>
        some x5
      else
        some false
    else
      if (decide (t1.i = (0 : Int))) then
        if (decide (t1.j = (0 : Int))) then
          some (decide (t1.n = (0 : Int)))
        else
          some false
      else
        some false
def c140_2 (t1 : Tm) (t4 : Int) (t46 : Bool) : Option Bool :=
  o140_2 t1 t4 t46
def c140_1 (t1 : Tm) (t4 : Int) (t25 : Bool) : Option Bool :=
  o140_1 (c140_2) t1 t4 t25
def f140 (a0 : Tm) : Option Bool := o140_0 (c140_1) a0
def an140 : An := (.n none [] 0 .z (.n none [] 0 (.n none [] 0 .z (.n none [] 0 (.n none [] 0 .z (.n none [] 0 .z (.n (some 1) [(1, .ps 0 .tm false), (4, .one .c), (25, .one .c)] 1 .z (.n none [] 0 .z (.n (some 2) [(1, .ps 0 .tm false), (4, .one .c), (46, .one .c)] 1 .z .z))))) .z)) .z))
def F140 : Fn := { f := 140, a := an140, vars := [.tmp 2], ps := [.st .tm], rs := [.sc .bool], own := false, fr := true, nt := 87, D := 4, loops := [] }
def cs140 : List Cal := [⟨149, [.sc .int], [.sc .bool], true, fun a => f149 a.1⟩]
def st140_1 (t1 : Tm) (t4 : Int) (t25 : Bool) : SS := ⟨[(1, .v (.one (.ptr 0 0))), (4, .v (.one (.c (.int t4) true))), (25, .v (.one (.c (.bool t25) true)))], [(0, some (.bst .tm t1 false))], 1⟩
def st140_2 (t1 : Tm) (t4 : Int) (t46 : Bool) : SS := ⟨[(1, .v (.one (.ptr 0 0))), (4, .v (.one (.c (.int t4) true))), (46, .v (.one (.c (.bool t46) true)))], [(0, some (.bst .tm t1 false))], 1⟩
theorem p140_0 (lab : Nat → SS → Option (RT.den F140.rs)) (x : PTs.den F140.ps) : F140.body (bodyOf Try.f140) tabR tyR true cs140 lab x = o140_0 (fun t1 t4 t25 => lab 1 (st140_1 t1 t4 t25)) x.1 := by kernel_rfl
theorem p140_1 (lab : Nat → SS → Option (RT.den F140.rs)) (t1 : Tm) (t4 : Int) (t25 : Bool) : F140.at (bodyOf Try.f140) tabR tyR true cs140 lab 1 (st140_1 t1 t4 t25) = o140_1 (fun t1 t4 t46 => lab 2 (st140_2 t1 t4 t46)) t1 t4 t25 := by kernel_rfl
theorem p140_2 (lab : Nat → SS → Option (RT.den F140.rs)) (t1 : Tm) (t4 : Int) (t46 : Bool) : F140.at (bodyOf Try.f140) tabR tyR true cs140 lab 2 (st140_2 t1 t4 t46) = o140_2 t1 t4 t46 := by kernel_rfl
theorem n140_2 (rec : Nat → SS → Option (RT.den F140.rs)) (d : Nat) (t1 : Tm) (t4 : Int) (t46 : Bool) : F140.labD (bodyOf Try.f140) tabR tyR true cs140 rec (d + 1) 2 (st140_2 t1 t4 t46) = c140_2 t1 t4 t46 := by
  show F140.labD (bodyOf Try.f140) tabR tyR true cs140 rec (d + 1) 2 _ = _
  rw [Fn.labD_succ, p140_2]
  rfl
theorem n140_1 (rec : Nat → SS → Option (RT.den F140.rs)) (d : Nat) (t1 : Tm) (t4 : Int) (t25 : Bool) : F140.labD (bodyOf Try.f140) tabR tyR true cs140 rec (d + 2) 1 (st140_1 t1 t4 t25) = c140_1 t1 t4 t25 := by
  have e2 : ∀ t1 t4 t46, F140.labX (bodyOf Try.f140) tabR tyR true cs140 rec (d + 1) 2 (st140_2 t1 t4 t46) = c140_2 t1 t4 t46 := fun t1 t4 t46 => (Fn.labX_step _ _ _ _ _ _ _ _ _ _ (by kernel_rfl)).trans (n140_2 rec d t1 t4 t46)
  show F140.labD (bodyOf Try.f140) tabR tyR true cs140 rec ((d + 1) + 1) 1 _ = _
  rw [Fn.labD_succ, p140_1]
  simp only [e2]
  rfl
theorem w140 (x : PTs.den F140.ps) : F140.body (bodyOf Try.f140) tabR tyR true cs140 (F140.labX (bodyOf Try.f140) tabR tyR true cs140 (F140.labM (bodyOf Try.f140) tabR tyR true cs140 0) F140.D) x = o140_0 (c140_1) x.1 := by
  have e1 : ∀ t1 t4 t25, F140.labX (bodyOf Try.f140) tabR tyR true cs140 (F140.labM (bodyOf Try.f140) tabR tyR true cs140 0) 4 1 (st140_1 t1 t4 t25) = c140_1 t1 t4 t25 := fun t1 t4 t25 => (Fn.labX_step _ _ _ _ _ _ _ _ _ _ (by kernel_rfl)).trans (n140_1 (F140.labM (bodyOf Try.f140) tabR tyR true cs140 0) 2 t1 t4 t25)
  show F140.body (bodyOf Try.f140) tabR tyR true cs140 (F140.labX (bodyOf Try.f140) tabR tyR true cs140 (F140.labM (bodyOf Try.f140) tabR tyR true cs140 0) 4) x = _
  rw [p140_0]
  simp only [e1]
  try rfl
theorem call140 : Callable Try.prog 140 := callable_of Try.func140 (by kernel_rfl) (by kernel_rfl)
theorem ok140 : Cal.Ok Try.prog ⟨140, F140.ps, F140.rs, F140.fr, fun a => f140 a.1⟩ :=
  cal_of_fn F140 (code := bodyOf Try.f140) Try.func140 (by kernel_rfl) (by kernel_rfl) call140 htabR (cs := cs140) (fun c hc => by
      simp only [cs140, List.mem_cons, List.not_mem_nil, or_false] at hc
      rcases hc with rfl
      · exact ok149) (fun _ => mixed) (by kernel_rfl) (by kernel_rfl) (by decide) (fun x => ⟨0, w140 x⟩)
-- tranship/transhipref04.node
def o119_0 (a0 : Tm) : Option Bool :=
  (f58 a0.kind a0.n).bind fun x1 =>
  if (decide ((a0.kids.length : Int) = x1)) then
    (f140 a0).bind fun x2 =>
    some x2
  else
    some false
def f119 (a0 : Tm) : Option Bool := o119_0 a0
def an119 : An := .z
def F119 : Fn := { f := 119, a := an119, vars := [.tmp 2], ps := [.st .tm], rs := [.sc .bool], own := false, fr := true, nt := 16, D := 2, loops := [] }
def cs119 : List Cal := [⟨58, [.sc .int, .sc .int], [.sc .int], true, fun a => f58 a.1 a.2.1⟩, ⟨140, [.st .tm], [.sc .bool], true, fun a => f140 a.1⟩]
theorem p119_0 (lab : Nat → SS → Option (RT.den F119.rs)) (x : PTs.den F119.ps) : F119.body (bodyOf Try.f119) tabR tyR true cs119 lab x = o119_0 x.1 := by kernel_rfl
theorem w119 (x : PTs.den F119.ps) : F119.body (bodyOf Try.f119) tabR tyR true cs119 (F119.labX (bodyOf Try.f119) tabR tyR true cs119 (F119.labM (bodyOf Try.f119) tabR tyR true cs119 0) F119.D) x = o119_0 x.1 := by
  show F119.body (bodyOf Try.f119) tabR tyR true cs119 (F119.labX (bodyOf Try.f119) tabR tyR true cs119 (F119.labM (bodyOf Try.f119) tabR tyR true cs119 0) 2) x = _
  rw [p119_0]
theorem call119 : Callable Try.prog 119 := callable_of Try.func119 (by kernel_rfl) (by kernel_rfl)
theorem ok119 : Cal.Ok Try.prog ⟨119, F119.ps, F119.rs, F119.fr, fun a => f119 a.1⟩ :=
  cal_of_fn F119 (code := bodyOf Try.f119) Try.func119 (by kernel_rfl) (by kernel_rfl) call119 htabR (cs := cs119) (fun c hc => by
      simp only [cs119, List.mem_cons, List.not_mem_nil, or_false] at hc
      rcases hc with rfl | rfl
      · exact ok58
      · exact ok140) (fun _ => mixed) (by kernel_rfl) (by kernel_rfl) (by decide) (fun x => ⟨0, w119 x⟩)
-- tranship/transhipref04.Plain
def o77_0 (s77 : Tm → Option Bool) (n : Nat) (k1 : Tm → Option Bool) (a0 : Tm) : Option Bool :=
  if (!decide (a0.kind = (1 : Int))) then
    if (!decide (a0.kind = (2 : Int))) then
      if (decide (a0.kind < (13 : Int))) then
        some false
      else
        if (decide ((23 : Int) < a0.kind)) then
          some false
        else
          (f119 a0).bind fun x1 =>
          if (!x1) then
            some false
          else
            k1 a0
    else
      (f119 a0).bind fun x2 =>
      if (!x2) then
        some false
      else
        k1 a0
  else
    (f119 a0).bind fun x3 =>
    if (!x3) then
      some false
    else
      k1 a0
def o77_1 (s77 : Tm → Option Bool) (n : Nat) (k2 : Tm → Int → Option Bool) (t1 : Tm) : Option Bool :=
  k2 t1 (0 : Int)
def o77_2 (s77 : Tm → Option Bool) (n : Nat) (k2 : Tm → Int → Option Bool) (t1 : Tm) (t3 : Int) : Option Bool :=
  if (decide (t3 < (t1.kids.length : Int))) then
    atI t1.kids t3 fun x4 =>
    (s77 x4).bind fun x5 =>
    if (!x5) then
      some false
    else
      ckI (t3 + (1 : Int)) <|
      k2 t1 (t3 + (1 : Int))
  else
    some true
def c77_1 (s77 : Tm → Option Bool) (n : Nat) (k2 : Tm → Int → Option Bool) (t1 : Tm) : Option Bool :=
  o77_1 s77 n k2 t1
def l77_2 (s77 : Tm → Option Bool) (n : Nat) : Nat → Tm → Int → Option Bool
  | 0, _, _ => none
  | m + 1, t1, t3 => o77_2 s77 n (l77_2 s77 n m) t1 t3
def f77 : Nat → Tm → Option Bool
  | 0, _ => none
  | n + 1, a0 => o77_0 (f77 n) n (c77_1 (f77 n) n (l77_2 (f77 n) n n)) a0
def an77 : An := (.n none [] 0 .z (.n (some 1) [(1, .ps 0 .tm false)] 1 .z (.n none [] 0 (.n none [] 0 .z (.n none [] 0 (.n (some 2) [(1, .ps 0 .tm false), (3, .one .c)] 1 .z .z) .z)) .z)))
def F77 : Fn := { f := 77, a := an77, vars := [.tmp 2], ps := [.st .tm], rs := [.sc .bool], own := false, fr := true, nt := 41, D := 4, loops := [2] }
def cs77 (s77 : Tm → Option Bool) (n : Nat) : List Cal := [⟨77, [.st .tm], [.sc .bool], true, fun a => s77 a.1⟩, ⟨119, [.st .tm], [.sc .bool], true, fun a => f119 a.1⟩]
def st77_1 (t1 : Tm) : SS := ⟨[(1, .v (.one (.ptr 0 0)))], [(0, some (.bst .tm t1 false))], 1⟩
def st77_2 (t1 : Tm) (t3 : Int) : SS := ⟨[(1, .v (.one (.ptr 0 0))), (3, .v (.one (.c (.int t3) true)))], [(0, some (.bst .tm t1 false))], 1⟩
theorem p77_0 (s77 : Tm → Option Bool) (n : Nat) (lab : Nat → SS → Option (RT.den F77.rs)) (x : PTs.den F77.ps) : F77.body (bodyOf Try.f77) tabR tyR true (cs77 s77 n) lab x = o77_0 s77 n (fun t1 => lab 1 (st77_1 t1)) x.1 := by kernel_rfl
theorem p77_1 (s77 : Tm → Option Bool) (n : Nat) (lab : Nat → SS → Option (RT.den F77.rs)) (t1 : Tm) : F77.at (bodyOf Try.f77) tabR tyR true (cs77 s77 n) lab 1 (st77_1 t1) = o77_1 s77 n (fun t1 t3 => lab 2 (st77_2 t1 t3)) t1 := by kernel_rfl
theorem p77_2 (s77 : Tm → Option Bool) (n : Nat) (lab : Nat → SS → Option (RT.den F77.rs)) (t1 : Tm) (t3 : Int) : F77.at (bodyOf Try.f77) tabR tyR true (cs77 s77 n) lab 2 (st77_2 t1 t3) = o77_2 s77 n (fun t1 t3 => lab 2 (st77_2 t1 t3)) t1 t3 := by kernel_rfl
theorem n77_1 (s77 : Tm → Option Bool) (n : Nat) (rec : Nat → SS → Option (RT.den F77.rs)) (k2 : Tm → Int → Option Bool) (h2 : ∀ t1 t3, rec 2 (st77_2 t1 t3) = k2 t1 t3) (d : Nat) (t1 : Tm) : F77.labD (bodyOf Try.f77) tabR tyR true (cs77 s77 n) rec (d + 1) 1 (st77_1 t1) = c77_1 s77 n k2 t1 := by
  have e2 : ∀ t1 t3, F77.labX (bodyOf Try.f77) tabR tyR true (cs77 s77 n) rec d 2 (st77_2 t1 t3) = k2 t1 t3 := fun t1 t3 => (Fn.labX_loop _ _ _ _ _ _ _ _ _ _ (by kernel_rfl)).trans (h2 t1 t3)
  show F77.labD (bodyOf Try.f77) tabR tyR true (cs77 s77 n) rec (d + 1) 1 _ = _
  rw [Fn.labD_succ, p77_1]
  simp only [e2]
  rfl
theorem m77_2 (s77 : Tm → Option Bool) (n : Nat) : ∀ m : Nat, (∀ t1 t3, F77.labM (bodyOf Try.f77) tabR tyR true (cs77 s77 n) m 2 (st77_2 t1 t3) = l77_2 s77 n m t1 t3) := by
  intro m
  induction m with
  | zero => exact fun _ _ => rfl
  | succ m ih =>
    intro t1 t3
    have e2 : ∀ t1 t3, F77.labX (bodyOf Try.f77) tabR tyR true (cs77 s77 n) (F77.labM (bodyOf Try.f77) tabR tyR true (cs77 s77 n) m) 3 2 (st77_2 t1 t3) = (l77_2 s77 n m) t1 t3 := fun t1 t3 => (Fn.labX_loop _ _ _ _ _ _ _ _ _ _ (by kernel_rfl)).trans (ih t1 t3)
    rw [Fn.labM_succ]
    show F77.labD (bodyOf Try.f77) tabR tyR true (cs77 s77 n) (F77.labM (bodyOf Try.f77) tabR tyR true (cs77 s77 n) m) (3 + 1) 2 _ = _
    rw [Fn.labD_succ, p77_2]
    simp only [e2]
    rfl
theorem w77 (s77 : Tm → Option Bool) (n : Nat) (x : PTs.den F77.ps) : F77.body (bodyOf Try.f77) tabR tyR true (cs77 s77 n) (F77.labX (bodyOf Try.f77) tabR tyR true (cs77 s77 n) (F77.labM (bodyOf Try.f77) tabR tyR true (cs77 s77 n) n) F77.D) x = o77_0 s77 n (c77_1 s77 n (l77_2 s77 n n)) x.1 := by
  have e1 : ∀ t1, F77.labX (bodyOf Try.f77) tabR tyR true (cs77 s77 n) (F77.labM (bodyOf Try.f77) tabR tyR true (cs77 s77 n) n) 4 1 (st77_1 t1) = c77_1 s77 n (l77_2 s77 n n) t1 := fun t1 => (Fn.labX_step _ _ _ _ _ _ _ _ _ _ (by kernel_rfl)).trans (n77_1 s77 n (F77.labM (bodyOf Try.f77) tabR tyR true (cs77 s77 n) n) (l77_2 s77 n n) (m77_2 s77 n n) 3 t1)
  show F77.body (bodyOf Try.f77) tabR tyR true (cs77 s77 n) (F77.labX (bodyOf Try.f77) tabR tyR true (cs77 s77 n) (F77.labM (bodyOf Try.f77) tabR tyR true (cs77 s77 n) n) 4) x = _
  rw [p77_0]
  simp only [e1]
  try rfl
theorem call77 : Callable Try.prog 77 := callable_of Try.func77 (by kernel_rfl) (by kernel_rfl)
theorem okr77 : ∀ n : Nat, Cal.Ok Try.prog ⟨77, F77.ps, F77.rs, F77.fr, fun a => f77 n a.1⟩
  | 0 => ⟨by kernel_rfl, fun a r h => by cases h⟩
  | n + 1 => cal_of_fn F77 (code := bodyOf Try.f77) Try.func77 (by kernel_rfl) (by kernel_rfl) call77 htabR (cs := cs77 (f77 n) n) (fun c hc => by
      simp only [cs77, List.mem_cons, List.not_mem_nil, or_false] at hc
      rcases hc with rfl | rfl
      · exact (okr77 n)
      · exact ok119) (fun _ => mixed) (by kernel_rfl) (by kernel_rfl) (by decide) (fun x => ⟨n, w77 (f77 n) n x⟩)
theorem ok77 (n : Nat) : Cal.Ok Try.prog ⟨77, F77.ps, F77.rs, F77.fr, fun a => f77 n a.1⟩ := (okr77 n)
-- tranship/transhipref04.Marked
def o70_0 (s70 : Tm → Option Bool) (n : Nat) (k1 : Tm → Option Bool) (a0 : Tm) : Option Bool :=
  if (decide (a0.kind < (1 : Int))) then
    some false
  else
    if (decide ((12 : Int) < a0.kind)) then
      some false
    else
      (f119 a0).bind fun x1 =>
      if (!x1) then
        some false
      else
        k1 a0
def o70_1 (s70 : Tm → Option Bool) (n : Nat) (k2 : Tm → Int → Option Bool) (t1 : Tm) : Option Bool :=
  k2 t1 (0 : Int)
def o70_2 (s70 : Tm → Option Bool) (n : Nat) (k3 : Tm → Int → Bool → Option Bool) (t1 : Tm) (t3 : Int) : Option Bool :=
  if (decide (t3 < (t1.kids.length : Int))) then
    if (decide (t1.kind = (12 : Int))) then
      k3 t1 t3 (decide (t3 = (2 : Int)))
    else
      k3 t1 t3 false
  else
    some true
def o70_3 (s70 : Tm → Option Bool) (n : Nat) (k2 : Tm → Int → Option Bool) (t1 : Tm) (t3 : Int) (t30 : Bool) : Option Bool :=
  if t30 then
    atI t1.kids t3 fun x2 =>
    (f77 n x2).bind fun x3 =>
    if (!x3) then
      some false
    else
      ckI (t3 + (1 : Int)) <|
      k2 t1 (t3 + (1 : Int))
  else
    atI t1.kids t3 fun x4 =>
    (s70 x4).bind fun x5 =>
    if (!x5) then
      some false
    else
      ckI (t3 + (1 : Int)) <|
      k2 t1 (t3 + (1 : Int))
def c70_1 (s70 : Tm → Option Bool) (n : Nat) (k2 : Tm → Int → Option Bool) (t1 : Tm) : Option Bool :=
  o70_1 s70 n k2 t1
def c70_3 (s70 : Tm → Option Bool) (n : Nat) (k2 : Tm → Int → Option Bool) (t1 : Tm) (t3 : Int) (t30 : Bool) : Option Bool :=
  o70_3 s70 n k2 t1 t3 t30
def l70_2 (s70 : Tm → Option Bool) (n : Nat) : Nat → Tm → Int → Option Bool
  | 0, _, _ => none
  | m + 1, t1, t3 => o70_2 s70 n (c70_3 s70 n (l70_2 s70 n m)) t1 t3
def f70 : Nat → Tm → Option Bool
  | 0, _ => none
  | n + 1, a0 => o70_0 (f70 n) n (c70_1 (f70 n) n (l70_2 (f70 n) n n)) a0
def an70 : An := (.n none [] 0 .z (.n (some 1) [(1, .ps 0 .tm false)] 1 .z (.n none [] 0 (.n none [] 0 .z (.n none [] 0 (.n (some 2) [(1, .ps 0 .tm false), (3, .one .c)] 1 (.n none [] 0 .z (.n none [] 0 (.n none [] 0 (.n (some 3) [(1, .ps 0 .tm false), (3, .one .c), (30, .one .c)] 1 .z .z) .z) .z)) .z) .z)) .z)))
def F70 : Fn := { f := 70, a := an70, vars := [.tmp 2], ps := [.st .tm], rs := [.sc .bool], own := false, fr := true, nt := 45, D := 5, loops := [2] }
def cs70 (s70 : Tm → Option Bool) (n : Nat) : List Cal := [⟨70, [.st .tm], [.sc .bool], true, fun a => s70 a.1⟩, ⟨77, [.st .tm], [.sc .bool], true, fun a => f77 n a.1⟩, ⟨119, [.st .tm], [.sc .bool], true, fun a => f119 a.1⟩]
def st70_1 (t1 : Tm) : SS := ⟨[(1, .v (.one (.ptr 0 0)))], [(0, some (.bst .tm t1 false))], 1⟩
def st70_2 (t1 : Tm) (t3 : Int) : SS := ⟨[(1, .v (.one (.ptr 0 0))), (3, .v (.one (.c (.int t3) true)))], [(0, some (.bst .tm t1 false))], 1⟩
def st70_3 (t1 : Tm) (t3 : Int) (t30 : Bool) : SS := ⟨[(1, .v (.one (.ptr 0 0))), (3, .v (.one (.c (.int t3) true))), (30, .v (.one (.c (.bool t30) true)))], [(0, some (.bst .tm t1 false))], 1⟩
theorem p70_0 (s70 : Tm → Option Bool) (n : Nat) (lab : Nat → SS → Option (RT.den F70.rs)) (x : PTs.den F70.ps) : F70.body (bodyOf Try.f70) tabR tyR true (cs70 s70 n) lab x = o70_0 s70 n (fun t1 => lab 1 (st70_1 t1)) x.1 := by kernel_rfl
theorem p70_1 (s70 : Tm → Option Bool) (n : Nat) (lab : Nat → SS → Option (RT.den F70.rs)) (t1 : Tm) : F70.at (bodyOf Try.f70) tabR tyR true (cs70 s70 n) lab 1 (st70_1 t1) = o70_1 s70 n (fun t1 t3 => lab 2 (st70_2 t1 t3)) t1 := by kernel_rfl
theorem p70_2 (s70 : Tm → Option Bool) (n : Nat) (lab : Nat → SS → Option (RT.den F70.rs)) (t1 : Tm) (t3 : Int) : F70.at (bodyOf Try.f70) tabR tyR true (cs70 s70 n) lab 2 (st70_2 t1 t3) = o70_2 s70 n (fun t1 t3 t30 => lab 3 (st70_3 t1 t3 t30)) t1 t3 := by kernel_rfl
theorem p70_3 (s70 : Tm → Option Bool) (n : Nat) (lab : Nat → SS → Option (RT.den F70.rs)) (t1 : Tm) (t3 : Int) (t30 : Bool) : F70.at (bodyOf Try.f70) tabR tyR true (cs70 s70 n) lab 3 (st70_3 t1 t3 t30) = o70_3 s70 n (fun t1 t3 => lab 2 (st70_2 t1 t3)) t1 t3 t30 := by kernel_rfl
theorem n70_1 (s70 : Tm → Option Bool) (n : Nat) (rec : Nat → SS → Option (RT.den F70.rs)) (k2 : Tm → Int → Option Bool) (h2 : ∀ t1 t3, rec 2 (st70_2 t1 t3) = k2 t1 t3) (d : Nat) (t1 : Tm) : F70.labD (bodyOf Try.f70) tabR tyR true (cs70 s70 n) rec (d + 1) 1 (st70_1 t1) = c70_1 s70 n k2 t1 := by
  have e2 : ∀ t1 t3, F70.labX (bodyOf Try.f70) tabR tyR true (cs70 s70 n) rec d 2 (st70_2 t1 t3) = k2 t1 t3 := fun t1 t3 => (Fn.labX_loop _ _ _ _ _ _ _ _ _ _ (by kernel_rfl)).trans (h2 t1 t3)
  show F70.labD (bodyOf Try.f70) tabR tyR true (cs70 s70 n) rec (d + 1) 1 _ = _
  rw [Fn.labD_succ, p70_1]
  simp only [e2]
  rfl
theorem n70_3 (s70 : Tm → Option Bool) (n : Nat) (rec : Nat → SS → Option (RT.den F70.rs)) (k2 : Tm → Int → Option Bool) (h2 : ∀ t1 t3, rec 2 (st70_2 t1 t3) = k2 t1 t3) (d : Nat) (t1 : Tm) (t3 : Int) (t30 : Bool) : F70.labD (bodyOf Try.f70) tabR tyR true (cs70 s70 n) rec (d + 1) 3 (st70_3 t1 t3 t30) = c70_3 s70 n k2 t1 t3 t30 := by
  have e2 : ∀ t1 t3, F70.labX (bodyOf Try.f70) tabR tyR true (cs70 s70 n) rec d 2 (st70_2 t1 t3) = k2 t1 t3 := fun t1 t3 => (Fn.labX_loop _ _ _ _ _ _ _ _ _ _ (by kernel_rfl)).trans (h2 t1 t3)
  show F70.labD (bodyOf Try.f70) tabR tyR true (cs70 s70 n) rec (d + 1) 3 _ = _
  rw [Fn.labD_succ, p70_3]
  simp only [e2]
  rfl
theorem m70_2 (s70 : Tm → Option Bool) (n : Nat) : ∀ m : Nat, (∀ t1 t3, F70.labM (bodyOf Try.f70) tabR tyR true (cs70 s70 n) m 2 (st70_2 t1 t3) = l70_2 s70 n m t1 t3) := by
  intro m
  induction m with
  | zero => exact fun _ _ => rfl
  | succ m ih =>
    intro t1 t3
    have e3 : ∀ t1 t3 t30, F70.labX (bodyOf Try.f70) tabR tyR true (cs70 s70 n) (F70.labM (bodyOf Try.f70) tabR tyR true (cs70 s70 n) m) 4 3 (st70_3 t1 t3 t30) = c70_3 s70 n (l70_2 s70 n m) t1 t3 t30 := fun t1 t3 t30 => (Fn.labX_step _ _ _ _ _ _ _ _ _ _ (by kernel_rfl)).trans (n70_3 s70 n (F70.labM (bodyOf Try.f70) tabR tyR true (cs70 s70 n) m) (l70_2 s70 n m) ih 3 t1 t3 t30)
    rw [Fn.labM_succ]
    show F70.labD (bodyOf Try.f70) tabR tyR true (cs70 s70 n) (F70.labM (bodyOf Try.f70) tabR tyR true (cs70 s70 n) m) (4 + 1) 2 _ = _
    rw [Fn.labD_succ, p70_2]
    simp only [e3]
    rfl
theorem w70 (s70 : Tm → Option Bool) (n : Nat) (x : PTs.den F70.ps) : F70.body (bodyOf Try.f70) tabR tyR true (cs70 s70 n) (F70.labX (bodyOf Try.f70) tabR tyR true (cs70 s70 n) (F70.labM (bodyOf Try.f70) tabR tyR true (cs70 s70 n) n) F70.D) x = o70_0 s70 n (c70_1 s70 n (l70_2 s70 n n)) x.1 := by
  have e1 : ∀ t1, F70.labX (bodyOf Try.f70) tabR tyR true (cs70 s70 n) (F70.labM (bodyOf Try.f70) tabR tyR true (cs70 s70 n) n) 5 1 (st70_1 t1) = c70_1 s70 n (l70_2 s70 n n) t1 := fun t1 => (Fn.labX_step _ _ _ _ _ _ _ _ _ _ (by kernel_rfl)).trans (n70_1 s70 n (F70.labM (bodyOf Try.f70) tabR tyR true (cs70 s70 n) n) (l70_2 s70 n n) (m70_2 s70 n n) 4 t1)
  show F70.body (bodyOf Try.f70) tabR tyR true (cs70 s70 n) (F70.labX (bodyOf Try.f70) tabR tyR true (cs70 s70 n) (F70.labM (bodyOf Try.f70) tabR tyR true (cs70 s70 n) n) 5) x = _
  rw [p70_0]
  simp only [e1]
  try rfl
theorem call70 : Callable Try.prog 70 := callable_of Try.func70 (by kernel_rfl) (by kernel_rfl)
theorem okr70 : ∀ n : Nat, Cal.Ok Try.prog ⟨70, F70.ps, F70.rs, F70.fr, fun a => f70 n a.1⟩
  | 0 => ⟨by kernel_rfl, fun a r h => by cases h⟩
  | n + 1 => cal_of_fn F70 (code := bodyOf Try.f70) Try.func70 (by kernel_rfl) (by kernel_rfl) call70 htabR (cs := cs70 (f70 n) n) (fun c hc => by
      simp only [cs70, List.mem_cons, List.not_mem_nil, or_false] at hc
      rcases hc with rfl | rfl | rfl
      · exact (okr70 n)
      · exact ok77 n
      · exact ok119) (fun _ => mixed) (by kernel_rfl) (by kernel_rfl) (by decide) (fun x => ⟨n, w70 (f70 n) n x⟩)
theorem ok70 (n : Nat) : Cal.Ok Try.prog ⟨70, F70.ps, F70.rs, F70.fr, fun a => f70 n a.1⟩ := (okr70 n)
-- tranship/transhipkeep.Twin, tranship/transhipkeep.Twins
def o66_0 (s66 : Tm → Option Tm) (s116 : (List Tm) → Option ((List Tm))) (n : Nat) (a0 : Tm) : Option Tm :=
  (s116 a0.kids).bind fun x1 =>
  some (Tm.mk a0.kind a0.i a0.j a0.n x1)
def o116_0 (s66 : Tm → Option Tm) (s116 : (List Tm) → Option ((List Tm))) (n : Nat) (k1 : (List Tm) → (List Tm) → Int → Option ((List Tm))) (a0 : List Tm) : Option ((List Tm)) :=
  k1 a0 ([] : List Tm) (0 : Int)
def o116_1 (s66 : Tm → Option Tm) (s116 : (List Tm) → Option ((List Tm))) (n : Nat) (k1 : (List Tm) → (List Tm) → Int → Option ((List Tm))) (t0 : List Tm) (t3 : List Tm) (t4 : Int) : Option ((List Tm)) :=
  if (decide (t4 < (t0.length : Int))) then
    atI t0 t4 fun x1 =>
    (s66 x1).bind fun x2 =>
    ckB (decide ((t3.length + [(Tm.mk x2.kind x2.i x2.j x2.n x2.kids)].length) * 56 ≤ 140737488355328) && decide (t3.length + [(Tm.mk x2.kind x2.i x2.j x2.n x2.kids)].length ≤ 9223372036854775807)) <|
    ckI (t4 + (1 : Int)) <|
    k1 t0 (t3 ++ [(Tm.mk x2.kind x2.i x2.j x2.n x2.kids)]) (t4 + (1 : Int))
  else
    some t3
def l116_1 (s66 : Tm → Option Tm) (s116 : (List Tm) → Option ((List Tm))) (n : Nat) : Nat → (List Tm) → (List Tm) → Int → Option ((List Tm))
  | 0, _, _, _ => none
  | m + 1, t0, t3, t4 => o116_1 s66 s116 n (l116_1 s66 s116 n m) t0 t3 t4
mutual
def f66 : Nat → Tm → Option Tm
  | 0, _ => none
  | n + 1, a0 => o66_0 (f66 n) (f116 n) n a0
def f116 : Nat → (List Tm) → Option ((List Tm))
  | 0, _ => none
  | n + 1, a0 => o116_0 (f66 n) (f116 n) n (l116_1 (f66 n) (f116 n) n n) a0
end
def an66 : An := .z
def F66 : Fn := { f := 66, a := an66, vars := [.cell 2 45], ps := [.st .tm], rs := [.st .tm], own := false, fr := true, nt := 15, D := 2, loops := [] }
def cs66 (s66 : Tm → Option Tm) (s116 : (List Tm) → Option ((List Tm))) (n : Nat) : List Cal := [⟨116, [.sl .tm], [.sl .tm], true, fun a => s116 a.1⟩]
theorem p66_0 (s66 : Tm → Option Tm) (s116 : (List Tm) → Option ((List Tm))) (n : Nat) (lab : Nat → SS → Option (RT.den F66.rs)) (x : PTs.den F66.ps) : F66.body (bodyOf Try.f66) tabR tyR true (cs66 s66 s116 n) lab x = o66_0 s66 s116 n x.1 := by kernel_rfl
theorem w66 (s66 : Tm → Option Tm) (s116 : (List Tm) → Option ((List Tm))) (n : Nat) (x : PTs.den F66.ps) : F66.body (bodyOf Try.f66) tabR tyR true (cs66 s66 s116 n) (F66.labX (bodyOf Try.f66) tabR tyR true (cs66 s66 s116 n) (F66.labM (bodyOf Try.f66) tabR tyR true (cs66 s66 s116 n) 0) F66.D) x = o66_0 s66 s116 n x.1 := by
  show F66.body (bodyOf Try.f66) tabR tyR true (cs66 s66 s116 n) (F66.labX (bodyOf Try.f66) tabR tyR true (cs66 s66 s116 n) (F66.labM (bodyOf Try.f66) tabR tyR true (cs66 s66 s116 n) 0) 2) x = _
  rw [p66_0]
theorem call66 : Callable Try.prog 66 := callable_of Try.func66 (by kernel_rfl) (by kernel_rfl)
def an116 : An := (.n none [] 0 .z (.n none [] 0 .z (.n none [] 0 (.n none [] 0 .z (.n none [] 0 (.n (some 1) [(0, .one (.d .tm false)), (3, .one (.r 0 45 .tm true)), (4, .one .c)] 1 .z .z) .z)) .z)))
def F116 : Fn := { f := 116, a := an116, vars := [.tmp 2], ps := [.sl .tm], rs := [.sl .tm], own := false, fr := true, nt := 20, D := 3, loops := [1] }
def cs116 (s66 : Tm → Option Tm) (s116 : (List Tm) → Option ((List Tm))) (n : Nat) : List Cal := [⟨66, [.st .tm], [.st .tm], true, fun a => s66 a.1⟩]
def st116_1 (t0 : List Tm) (t3 : List Tm) (t4 : Int) : SS := ⟨[(0, .v (.one (.c (.sl .tm t0) false))), (3, .v (.one (.arr 0))), (4, .v (.one (.c (.int t4) true)))], [(0, some (.row 45 .tm t3 true))], 1⟩
theorem p116_0 (s66 : Tm → Option Tm) (s116 : (List Tm) → Option ((List Tm))) (n : Nat) (lab : Nat → SS → Option (RT.den F116.rs)) (x : PTs.den F116.ps) : F116.body (bodyOf Try.f116) tabR tyR true (cs116 s66 s116 n) lab x = o116_0 s66 s116 n (fun t0 t3 t4 => lab 1 (st116_1 t0 t3 t4)) x.1 := by kernel_rfl
theorem p116_1 (s66 : Tm → Option Tm) (s116 : (List Tm) → Option ((List Tm))) (n : Nat) (lab : Nat → SS → Option (RT.den F116.rs)) (t0 : List Tm) (t3 : List Tm) (t4 : Int) : F116.at (bodyOf Try.f116) tabR tyR true (cs116 s66 s116 n) lab 1 (st116_1 t0 t3 t4) = o116_1 s66 s116 n (fun t0 t3 t4 => lab 1 (st116_1 t0 t3 t4)) t0 t3 t4 := by kernel_rfl
theorem m116_1 (s66 : Tm → Option Tm) (s116 : (List Tm) → Option ((List Tm))) (n : Nat) : ∀ m : Nat, (∀ t0 t3 t4, F116.labM (bodyOf Try.f116) tabR tyR true (cs116 s66 s116 n) m 1 (st116_1 t0 t3 t4) = l116_1 s66 s116 n m t0 t3 t4) := by
  intro m
  induction m with
  | zero => exact fun _ _ _ => rfl
  | succ m ih =>
    intro t0 t3 t4
    have e1 : ∀ t0 t3 t4, F116.labX (bodyOf Try.f116) tabR tyR true (cs116 s66 s116 n) (F116.labM (bodyOf Try.f116) tabR tyR true (cs116 s66 s116 n) m) 2 1 (st116_1 t0 t3 t4) = (l116_1 s66 s116 n m) t0 t3 t4 := fun t0 t3 t4 => (Fn.labX_loop _ _ _ _ _ _ _ _ _ _ (by kernel_rfl)).trans (ih t0 t3 t4)
    rw [Fn.labM_succ]
    show F116.labD (bodyOf Try.f116) tabR tyR true (cs116 s66 s116 n) (F116.labM (bodyOf Try.f116) tabR tyR true (cs116 s66 s116 n) m) (2 + 1) 1 _ = _
    rw [Fn.labD_succ, p116_1]
    simp only [e1]
    rfl
theorem w116 (s66 : Tm → Option Tm) (s116 : (List Tm) → Option ((List Tm))) (n : Nat) (x : PTs.den F116.ps) : F116.body (bodyOf Try.f116) tabR tyR true (cs116 s66 s116 n) (F116.labX (bodyOf Try.f116) tabR tyR true (cs116 s66 s116 n) (F116.labM (bodyOf Try.f116) tabR tyR true (cs116 s66 s116 n) n) F116.D) x = o116_0 s66 s116 n (l116_1 s66 s116 n n) x.1 := by
  have e1 : ∀ t0 t3 t4, F116.labX (bodyOf Try.f116) tabR tyR true (cs116 s66 s116 n) (F116.labM (bodyOf Try.f116) tabR tyR true (cs116 s66 s116 n) n) 3 1 (st116_1 t0 t3 t4) = (l116_1 s66 s116 n n) t0 t3 t4 := fun t0 t3 t4 => (Fn.labX_loop _ _ _ _ _ _ _ _ _ _ (by kernel_rfl)).trans ((m116_1 s66 s116 n n) t0 t3 t4)
  show F116.body (bodyOf Try.f116) tabR tyR true (cs116 s66 s116 n) (F116.labX (bodyOf Try.f116) tabR tyR true (cs116 s66 s116 n) (F116.labM (bodyOf Try.f116) tabR tyR true (cs116 s66 s116 n) n) 3) x = _
  rw [p116_0]
  simp only [e1]
  try rfl
theorem call116 : Callable Try.prog 116 := callable_of Try.func116 (by kernel_rfl) (by kernel_rfl)
theorem okr66 : ∀ n : Nat, Cal.Ok Try.prog ⟨66, F66.ps, F66.rs, F66.fr, fun a => f66 n a.1⟩ ∧ Cal.Ok Try.prog ⟨116, F116.ps, F116.rs, F116.fr, fun a => f116 n a.1⟩
  | 0 => ⟨⟨by kernel_rfl, fun a r h => by cases h⟩, ⟨by kernel_rfl, fun a r h => by cases h⟩⟩
  | n + 1 => ⟨cal_of_fn F66 (code := bodyOf Try.f66) Try.func66 (by kernel_rfl) (by kernel_rfl) call66 htabR (cs := cs66 (f66 n) (f116 n) n) (fun c hc => by
      simp only [cs66, List.mem_cons, List.not_mem_nil, or_false] at hc
      rcases hc with rfl
      · exact (okr66 n).2) (fun _ => mixed) (by kernel_rfl) (by kernel_rfl) (by decide) (fun x => ⟨0, w66 (f66 n) (f116 n) n x⟩),
    cal_of_fn F116 (code := bodyOf Try.f116) Try.func116 (by kernel_rfl) (by kernel_rfl) call116 htabR (cs := cs116 (f66 n) (f116 n) n) (fun c hc => by
      simp only [cs116, List.mem_cons, List.not_mem_nil, or_false] at hc
      rcases hc with rfl
      · exact (okr66 n).1) (fun _ => mixed) (by kernel_rfl) (by kernel_rfl) (by decide) (fun x => ⟨n, w116 (f66 n) (f116 n) n x⟩)⟩
theorem ok66 (n : Nat) : Cal.Ok Try.prog ⟨66, F66.ps, F66.rs, F66.fr, fun a => f66 n a.1⟩ := (okr66 n).1
theorem ok116 (n : Nat) : Cal.Ok Try.prog ⟨116, F116.ps, F116.rs, F116.fr, fun a => f116 n a.1⟩ := (okr66 n).2
-- tranship/transhipkeep.Same, tranship/transhipkeep.Terms
def o68_0 (s68 : Tm → Tm → Option Bool) (s118 : (List Tm) → (List Tm) → Option Bool) (n : Nat) (a0 : Tm) (a1 : Tm) : Option Bool :=
  if (decide (a0.kind = a1.kind)) then
    if (decide (a0.i = a1.i)) then
      if (decide (a0.j = a1.j)) then
        if (decide (a0.n = a1.n)) then
          (s118 a0.kids a1.kids).bind fun x1 =>
          some x1
        else
          some false
      else
        some false
    else
      some false
  else
    some false
def o118_0 (s68 : Tm → Tm → Option Bool) (s118 : (List Tm) → (List Tm) → Option Bool) (n : Nat) (k1 : (List Tm) → (List Tm) → Int → Option Bool) (a0 : List Tm) (a1 : List Tm) : Option Bool :=
  if (!decide ((a0.length : Int) = (a1.length : Int))) then
    some false
  else
    k1 a0 a1 (0 : Int)
def o118_1 (s68 : Tm → Tm → Option Bool) (s118 : (List Tm) → (List Tm) → Option Bool) (n : Nat) (k1 : (List Tm) → (List Tm) → Int → Option Bool) (t0 : List Tm) (t1 : List Tm) (t5 : Int) : Option Bool :=
  if (decide (t5 < (t0.length : Int))) then
    atI t0 t5 fun x1 =>
    atI t1 t5 fun x2 =>
    (s68 x1 x2).bind fun x3 =>
    if (!x3) then
      some false
    else
      ckI (t5 + (1 : Int)) <|
      k1 t0 t1 (t5 + (1 : Int))
  else
    some true
def l118_1 (s68 : Tm → Tm → Option Bool) (s118 : (List Tm) → (List Tm) → Option Bool) (n : Nat) : Nat → (List Tm) → (List Tm) → Int → Option Bool
  | 0, _, _, _ => none
  | m + 1, t0, t1, t5 => o118_1 s68 s118 n (l118_1 s68 s118 n m) t0 t1 t5
mutual
def f68 : Nat → Tm → Tm → Option Bool
  | 0, _, _ => none
  | n + 1, a0, a1 => o68_0 (f68 n) (f118 n) n a0 a1
def f118 : Nat → (List Tm) → (List Tm) → Option Bool
  | 0, _, _ => none
  | n + 1, a0, a1 => o118_0 (f68 n) (f118 n) n (l118_1 (f68 n) (f118 n) n n) a0 a1
end
def an68 : An := .z
def F68 : Fn := { f := 68, a := an68, vars := [.tmp 4], ps := [.st .tm, .st .tm], rs := [.sc .bool], own := false, fr := true, nt := 38, D := 2, loops := [] }
def cs68 (s68 : Tm → Tm → Option Bool) (s118 : (List Tm) → (List Tm) → Option Bool) (n : Nat) : List Cal := [⟨118, [.sl .tm, .sl .tm], [.sc .bool], true, fun a => s118 a.1 a.2.1⟩]
theorem p68_0 (s68 : Tm → Tm → Option Bool) (s118 : (List Tm) → (List Tm) → Option Bool) (n : Nat) (lab : Nat → SS → Option (RT.den F68.rs)) (x : PTs.den F68.ps) : F68.body (bodyOf Try.f68) tabR tyR true (cs68 s68 s118 n) lab x = o68_0 s68 s118 n x.1 x.2.1 := by kernel_rfl
theorem w68 (s68 : Tm → Tm → Option Bool) (s118 : (List Tm) → (List Tm) → Option Bool) (n : Nat) (x : PTs.den F68.ps) : F68.body (bodyOf Try.f68) tabR tyR true (cs68 s68 s118 n) (F68.labX (bodyOf Try.f68) tabR tyR true (cs68 s68 s118 n) (F68.labM (bodyOf Try.f68) tabR tyR true (cs68 s68 s118 n) 0) F68.D) x = o68_0 s68 s118 n x.1 x.2.1 := by
  show F68.body (bodyOf Try.f68) tabR tyR true (cs68 s68 s118 n) (F68.labX (bodyOf Try.f68) tabR tyR true (cs68 s68 s118 n) (F68.labM (bodyOf Try.f68) tabR tyR true (cs68 s68 s118 n) 0) 2) x = _
  rw [p68_0]
theorem call68 : Callable Try.prog 68 := callable_of Try.func68 (by kernel_rfl) (by kernel_rfl)
def an118 : An := (.n none [] 0 .z (.n none [] 0 .z (.n none [] 0 (.n none [] 0 .z (.n none [] 0 (.n (some 1) [(0, .one (.d .tm false)), (1, .one (.d .tm false)), (5, .one .c)] 0 .z .z) .z)) .z)))
def F118 : Fn := { f := 118, a := an118, vars := [.tmp 4], ps := [.sl .tm, .sl .tm], rs := [.sc .bool], own := false, fr := true, nt := 27, D := 3, loops := [1] }
def cs118 (s68 : Tm → Tm → Option Bool) (s118 : (List Tm) → (List Tm) → Option Bool) (n : Nat) : List Cal := [⟨68, [.st .tm, .st .tm], [.sc .bool], true, fun a => s68 a.1 a.2.1⟩]
def st118_1 (t0 : List Tm) (t1 : List Tm) (t5 : Int) : SS := ⟨[(0, .v (.one (.c (.sl .tm t0) false))), (1, .v (.one (.c (.sl .tm t1) false))), (5, .v (.one (.c (.int t5) true)))], [], 0⟩
theorem p118_0 (s68 : Tm → Tm → Option Bool) (s118 : (List Tm) → (List Tm) → Option Bool) (n : Nat) (lab : Nat → SS → Option (RT.den F118.rs)) (x : PTs.den F118.ps) : F118.body (bodyOf Try.f118) tabR tyR true (cs118 s68 s118 n) lab x = o118_0 s68 s118 n (fun t0 t1 t5 => lab 1 (st118_1 t0 t1 t5)) x.1 x.2.1 := by kernel_rfl
theorem p118_1 (s68 : Tm → Tm → Option Bool) (s118 : (List Tm) → (List Tm) → Option Bool) (n : Nat) (lab : Nat → SS → Option (RT.den F118.rs)) (t0 : List Tm) (t1 : List Tm) (t5 : Int) : F118.at (bodyOf Try.f118) tabR tyR true (cs118 s68 s118 n) lab 1 (st118_1 t0 t1 t5) = o118_1 s68 s118 n (fun t0 t1 t5 => lab 1 (st118_1 t0 t1 t5)) t0 t1 t5 := by kernel_rfl
theorem m118_1 (s68 : Tm → Tm → Option Bool) (s118 : (List Tm) → (List Tm) → Option Bool) (n : Nat) : ∀ m : Nat, (∀ t0 t1 t5, F118.labM (bodyOf Try.f118) tabR tyR true (cs118 s68 s118 n) m 1 (st118_1 t0 t1 t5) = l118_1 s68 s118 n m t0 t1 t5) := by
  intro m
  induction m with
  | zero => exact fun _ _ _ => rfl
  | succ m ih =>
    intro t0 t1 t5
    have e1 : ∀ t0 t1 t5, F118.labX (bodyOf Try.f118) tabR tyR true (cs118 s68 s118 n) (F118.labM (bodyOf Try.f118) tabR tyR true (cs118 s68 s118 n) m) 2 1 (st118_1 t0 t1 t5) = (l118_1 s68 s118 n m) t0 t1 t5 := fun t0 t1 t5 => (Fn.labX_loop _ _ _ _ _ _ _ _ _ _ (by kernel_rfl)).trans (ih t0 t1 t5)
    rw [Fn.labM_succ]
    show F118.labD (bodyOf Try.f118) tabR tyR true (cs118 s68 s118 n) (F118.labM (bodyOf Try.f118) tabR tyR true (cs118 s68 s118 n) m) (2 + 1) 1 _ = _
    rw [Fn.labD_succ, p118_1]
    simp only [e1]
    rfl
theorem w118 (s68 : Tm → Tm → Option Bool) (s118 : (List Tm) → (List Tm) → Option Bool) (n : Nat) (x : PTs.den F118.ps) : F118.body (bodyOf Try.f118) tabR tyR true (cs118 s68 s118 n) (F118.labX (bodyOf Try.f118) tabR tyR true (cs118 s68 s118 n) (F118.labM (bodyOf Try.f118) tabR tyR true (cs118 s68 s118 n) n) F118.D) x = o118_0 s68 s118 n (l118_1 s68 s118 n n) x.1 x.2.1 := by
  have e1 : ∀ t0 t1 t5, F118.labX (bodyOf Try.f118) tabR tyR true (cs118 s68 s118 n) (F118.labM (bodyOf Try.f118) tabR tyR true (cs118 s68 s118 n) n) 3 1 (st118_1 t0 t1 t5) = (l118_1 s68 s118 n n) t0 t1 t5 := fun t0 t1 t5 => (Fn.labX_loop _ _ _ _ _ _ _ _ _ _ (by kernel_rfl)).trans ((m118_1 s68 s118 n n) t0 t1 t5)
  show F118.body (bodyOf Try.f118) tabR tyR true (cs118 s68 s118 n) (F118.labX (bodyOf Try.f118) tabR tyR true (cs118 s68 s118 n) (F118.labM (bodyOf Try.f118) tabR tyR true (cs118 s68 s118 n) n) 3) x = _
  rw [p118_0]
  simp only [e1]
  try rfl
theorem call118 : Callable Try.prog 118 := callable_of Try.func118 (by kernel_rfl) (by kernel_rfl)
theorem okr68 : ∀ n : Nat, Cal.Ok Try.prog ⟨68, F68.ps, F68.rs, F68.fr, fun a => f68 n a.1 a.2.1⟩ ∧ Cal.Ok Try.prog ⟨118, F118.ps, F118.rs, F118.fr, fun a => f118 n a.1 a.2.1⟩
  | 0 => ⟨⟨by kernel_rfl, fun a r h => by cases h⟩, ⟨by kernel_rfl, fun a r h => by cases h⟩⟩
  | n + 1 => ⟨cal_of_fn F68 (code := bodyOf Try.f68) Try.func68 (by kernel_rfl) (by kernel_rfl) call68 htabR (cs := cs68 (f68 n) (f118 n) n) (fun c hc => by
      simp only [cs68, List.mem_cons, List.not_mem_nil, or_false] at hc
      rcases hc with rfl
      · exact (okr68 n).2) (fun _ => mixed) (by kernel_rfl) (by kernel_rfl) (by decide) (fun x => ⟨0, w68 (f68 n) (f118 n) n x⟩),
    cal_of_fn F118 (code := bodyOf Try.f118) Try.func118 (by kernel_rfl) (by kernel_rfl) call118 htabR (cs := cs118 (f68 n) (f118 n) n) (fun c hc => by
      simp only [cs118, List.mem_cons, List.not_mem_nil, or_false] at hc
      rcases hc with rfl
      · exact (okr68 n).1) (fun _ => mixed) (by kernel_rfl) (by kernel_rfl) (by decide) (fun x => ⟨n, w118 (f68 n) (f118 n) n x⟩)⟩
theorem ok68 (n : Nat) : Cal.Ok Try.prog ⟨68, F68.ps, F68.rs, F68.fr, fun a => f68 n a.1 a.2.1⟩ := (okr68 n).1
theorem ok118 (n : Nat) : Cal.Ok Try.prog ⟨118, F118.ps, F118.rs, F118.fr, fun a => f118 n a.1 a.2.1⟩ := (okr68 n).2
-- tranship/transhipref04.Count
def o71_0 (s71 : Tm → Option Int) (n : Nat) (k1 : Tm → Int → Option Int) (a0 : Tm) : Option Int :=
  if (decide (a0.kind = (12 : Int))) then
    k1 a0 (1 : Int)
  else
    k1 a0 (0 : Int)
def o71_1 (s71 : Tm → Option Int) (n : Nat) (k2 : Tm → Int → Int → Option Int) (t1 : Tm) (t3 : Int) : Option Int :=
  k2 t1 t3 (0 : Int)
def o71_2 (s71 : Tm → Option Int) (n : Nat) (k2 : Tm → Int → Int → Option Int) (t1 : Tm) (t3 : Int) (t4 : Int) : Option Int :=
  if (decide (t4 < (t1.kids.length : Int))) then
    atI t1.kids t4 fun x1 =>
    (s71 x1).bind fun x2 =>
    ckI (t3 + x2) <|
    ckI (t4 + (1 : Int)) <|
    k2 t1 (t3 + x2) (t4 + (1 : Int))
  else
    some t3
def c71_1 (s71 : Tm → Option Int) (n : Nat) (k2 : Tm → Int → Int → Option Int) (t1 : Tm) (t3 : Int) : Option Int :=
  o71_1 s71 n k2 t1 t3
def l71_2 (s71 : Tm → Option Int) (n : Nat) : Nat → Tm → Int → Int → Option Int
  | 0, _, _, _ => none
  | m + 1, t1, t3, t4 => o71_2 s71 n (l71_2 s71 n m) t1 t3 t4
def f71 : Nat → Tm → Option Int
  | 0, _ => none
  | n + 1, a0 => o71_0 (f71 n) n (c71_1 (f71 n) n (l71_2 (f71 n) n n)) a0
def an71 : An := (.n none [] 0 .z (.n none [] 0 .z (.n (some 1) [(1, .ps 0 .tm false), (3, .one .c)] 1 .z (.n none [] 0 (.n none [] 0 .z (.n none [] 0 (.n (some 2) [(1, .ps 0 .tm false), (3, .one .c), (4, .one .c)] 1 .z .z) .z)) .z))))
def F71 : Fn := { f := 71, a := an71, vars := [.tmp 2], ps := [.st .tm], rs := [.sc .int], own := false, fr := true, nt := 24, D := 4, loops := [2] }
def cs71 (s71 : Tm → Option Int) (n : Nat) : List Cal := [⟨71, [.st .tm], [.sc .int], true, fun a => s71 a.1⟩]
def st71_1 (t1 : Tm) (t3 : Int) : SS := ⟨[(1, .v (.one (.ptr 0 0))), (3, .v (.one (.c (.int t3) true)))], [(0, some (.bst .tm t1 false))], 1⟩
def st71_2 (t1 : Tm) (t3 : Int) (t4 : Int) : SS := ⟨[(1, .v (.one (.ptr 0 0))), (3, .v (.one (.c (.int t3) true))), (4, .v (.one (.c (.int t4) true)))], [(0, some (.bst .tm t1 false))], 1⟩
theorem p71_0 (s71 : Tm → Option Int) (n : Nat) (lab : Nat → SS → Option (RT.den F71.rs)) (x : PTs.den F71.ps) : F71.body (bodyOf Try.f71) tabR tyR true (cs71 s71 n) lab x = o71_0 s71 n (fun t1 t3 => lab 1 (st71_1 t1 t3)) x.1 := by kernel_rfl
theorem p71_1 (s71 : Tm → Option Int) (n : Nat) (lab : Nat → SS → Option (RT.den F71.rs)) (t1 : Tm) (t3 : Int) : F71.at (bodyOf Try.f71) tabR tyR true (cs71 s71 n) lab 1 (st71_1 t1 t3) = o71_1 s71 n (fun t1 t3 t4 => lab 2 (st71_2 t1 t3 t4)) t1 t3 := by kernel_rfl
theorem p71_2 (s71 : Tm → Option Int) (n : Nat) (lab : Nat → SS → Option (RT.den F71.rs)) (t1 : Tm) (t3 : Int) (t4 : Int) : F71.at (bodyOf Try.f71) tabR tyR true (cs71 s71 n) lab 2 (st71_2 t1 t3 t4) = o71_2 s71 n (fun t1 t3 t4 => lab 2 (st71_2 t1 t3 t4)) t1 t3 t4 := by kernel_rfl
theorem n71_1 (s71 : Tm → Option Int) (n : Nat) (rec : Nat → SS → Option (RT.den F71.rs)) (k2 : Tm → Int → Int → Option Int) (h2 : ∀ t1 t3 t4, rec 2 (st71_2 t1 t3 t4) = k2 t1 t3 t4) (d : Nat) (t1 : Tm) (t3 : Int) : F71.labD (bodyOf Try.f71) tabR tyR true (cs71 s71 n) rec (d + 1) 1 (st71_1 t1 t3) = c71_1 s71 n k2 t1 t3 := by
  have e2 : ∀ t1 t3 t4, F71.labX (bodyOf Try.f71) tabR tyR true (cs71 s71 n) rec d 2 (st71_2 t1 t3 t4) = k2 t1 t3 t4 := fun t1 t3 t4 => (Fn.labX_loop _ _ _ _ _ _ _ _ _ _ (by kernel_rfl)).trans (h2 t1 t3 t4)
  show F71.labD (bodyOf Try.f71) tabR tyR true (cs71 s71 n) rec (d + 1) 1 _ = _
  rw [Fn.labD_succ, p71_1]
  simp only [e2]
  rfl
theorem m71_2 (s71 : Tm → Option Int) (n : Nat) : ∀ m : Nat, (∀ t1 t3 t4, F71.labM (bodyOf Try.f71) tabR tyR true (cs71 s71 n) m 2 (st71_2 t1 t3 t4) = l71_2 s71 n m t1 t3 t4) := by
  intro m
  induction m with
  | zero => exact fun _ _ _ => rfl
  | succ m ih =>
    intro t1 t3 t4
    have e2 : ∀ t1 t3 t4, F71.labX (bodyOf Try.f71) tabR tyR true (cs71 s71 n) (F71.labM (bodyOf Try.f71) tabR tyR true (cs71 s71 n) m) 3 2 (st71_2 t1 t3 t4) = (l71_2 s71 n m) t1 t3 t4 := fun t1 t3 t4 => (Fn.labX_loop _ _ _ _ _ _ _ _ _ _ (by kernel_rfl)).trans (ih t1 t3 t4)
    rw [Fn.labM_succ]
    show F71.labD (bodyOf Try.f71) tabR tyR true (cs71 s71 n) (F71.labM (bodyOf Try.f71) tabR tyR true (cs71 s71 n) m) (3 + 1) 2 _ = _
    rw [Fn.labD_succ, p71_2]
    simp only [e2]
    rfl
theorem w71 (s71 : Tm → Option Int) (n : Nat) (x : PTs.den F71.ps) : F71.body (bodyOf Try.f71) tabR tyR true (cs71 s71 n) (F71.labX (bodyOf Try.f71) tabR tyR true (cs71 s71 n) (F71.labM (bodyOf Try.f71) tabR tyR true (cs71 s71 n) n) F71.D) x = o71_0 s71 n (c71_1 s71 n (l71_2 s71 n n)) x.1 := by
  have e1 : ∀ t1 t3, F71.labX (bodyOf Try.f71) tabR tyR true (cs71 s71 n) (F71.labM (bodyOf Try.f71) tabR tyR true (cs71 s71 n) n) 4 1 (st71_1 t1 t3) = c71_1 s71 n (l71_2 s71 n n) t1 t3 := fun t1 t3 => (Fn.labX_step _ _ _ _ _ _ _ _ _ _ (by kernel_rfl)).trans (n71_1 s71 n (F71.labM (bodyOf Try.f71) tabR tyR true (cs71 s71 n) n) (l71_2 s71 n n) (m71_2 s71 n n) 3 t1 t3)
  show F71.body (bodyOf Try.f71) tabR tyR true (cs71 s71 n) (F71.labX (bodyOf Try.f71) tabR tyR true (cs71 s71 n) (F71.labM (bodyOf Try.f71) tabR tyR true (cs71 s71 n) n) 4) x = _
  rw [p71_0]
  simp only [e1]
  try rfl
theorem call71 : Callable Try.prog 71 := callable_of Try.func71 (by kernel_rfl) (by kernel_rfl)
theorem okr71 : ∀ n : Nat, Cal.Ok Try.prog ⟨71, F71.ps, F71.rs, F71.fr, fun a => f71 n a.1⟩
  | 0 => ⟨by kernel_rfl, fun a r h => by cases h⟩
  | n + 1 => cal_of_fn F71 (code := bodyOf Try.f71) Try.func71 (by kernel_rfl) (by kernel_rfl) call71 htabR (cs := cs71 (f71 n) n) (fun c hc => by
      simp only [cs71, List.mem_cons, List.not_mem_nil, or_false] at hc
      rcases hc with rfl
      · exact (okr71 n)) (fun _ => mixed) (by kernel_rfl) (by kernel_rfl) (by decide) (fun x => ⟨n, w71 (f71 n) n x⟩)
theorem ok71 (n : Nat) : Cal.Ok Try.prog ⟨71, F71.ps, F71.rs, F71.fr, fun a => f71 n a.1⟩ := (okr71 n)
-- tranship/bare.Same
def o122_0 (s122 : Tm → Tm → Option Bool) (n : Nat) (k1 : Tm → Tm → Option Bool) (a0 : Tm) (a1 : Tm) : Option Bool :=
  if (!decide (a0.kind = a1.kind)) then
    some false
  else
    if (!decide (a0.i = a1.i)) then
      some false
    else
      if (!decide (a0.j = a1.j)) then
        some false
      else
        if (!decide (a0.n = a1.n)) then
          some false
        else
          if (!decide ((a0.kids.length : Int) = (a1.kids.length : Int))) then
            some false
          else
            k1 a0 a1
def o122_1 (s122 : Tm → Tm → Option Bool) (n : Nat) (k2 : Tm → Tm → Int → Int → Option Bool) (t2 : Tm) (t3 : Tm) : Option Bool :=
  k2 t2 t3 (t2.kids.length : Int) (0 : Int)
def o122_2 (s122 : Tm → Tm → Option Bool) (n : Nat) (k2 : Tm → Tm → Int → Int → Option Bool) (t2 : Tm) (t3 : Tm) (t43 : Int) (t44 : Int) : Option Bool :=
  if (decide (t44 < t43)) then
    atI t2.kids t44 fun x1 =>
    atI t3.kids t44 fun x2 =>
    (s122 x1 x2).bind fun x3 =>
    if (!x3) then
      some false
    else
      ckI (t44 + (1 : Int)) <|
      k2 t2 t3 t43 (t44 + (1 : Int))
  else
    some true
def c122_1 (s122 : Tm → Tm → Option Bool) (n : Nat) (k2 : Tm → Tm → Int → Int → Option Bool) (t2 : Tm) (t3 : Tm) : Option Bool :=
  o122_1 s122 n k2 t2 t3
def l122_2 (s122 : Tm → Tm → Option Bool) (n : Nat) : Nat → Tm → Tm → Int → Int → Option Bool
  | 0, _, _, _, _ => none
  | m + 1, t2, t3, t43, t44 => o122_2 s122 n (l122_2 s122 n m) t2 t3 t43 t44
def f122 : Nat → Tm → Tm → Option Bool
  | 0, _, _ => none
  | n + 1, a0, a1 => o122_0 (f122 n) n (c122_1 (f122 n) n (l122_2 (f122 n) n n)) a0 a1
def an122 : An := (.n none [] 0 .z (.n (some 1) [(2, .ps 0 .tm false), (3, .ps 1 .tm false)] 2 .z (.n none [] 0 (.n none [] 0 .z (.n none [] 0 (.n (some 2) [(2, .ps 0 .tm false), (3, .ps 1 .tm false), (43, .one .c), (44, .one .c)] 2 .z .z) .z)) .z)))
def F122 : Fn := { f := 122, a := an122, vars := [.tmp 4], ps := [.st .tm, .st .tm], rs := [.sc .bool], own := false, fr := true, nt := 60, D := 4, loops := [2] }
def cs122 (s122 : Tm → Tm → Option Bool) (n : Nat) : List Cal := [⟨122, [.st .tm, .st .tm], [.sc .bool], true, fun a => s122 a.1 a.2.1⟩]
def st122_1 (t2 : Tm) (t3 : Tm) : SS := ⟨[(2, .v (.one (.ptr 0 0))), (3, .v (.one (.ptr 1 0)))], [(0, some (.bst .tm t2 false)), (1, some (.bst .tm t3 false))], 2⟩
def st122_2 (t2 : Tm) (t3 : Tm) (t43 : Int) (t44 : Int) : SS := ⟨[(2, .v (.one (.ptr 0 0))), (3, .v (.one (.ptr 1 0))), (43, .v (.one (.c (.int t43) true))), (44, .v (.one (.c (.int t44) true)))], [(0, some (.bst .tm t2 false)), (1, some (.bst .tm t3 false))], 2⟩
theorem p122_0 (s122 : Tm → Tm → Option Bool) (n : Nat) (lab : Nat → SS → Option (RT.den F122.rs)) (x : PTs.den F122.ps) : F122.body (bodyOf Try.f122) tabR tyR true (cs122 s122 n) lab x = o122_0 s122 n (fun t2 t3 => lab 1 (st122_1 t2 t3)) x.1 x.2.1 := by kernel_rfl
theorem p122_1 (s122 : Tm → Tm → Option Bool) (n : Nat) (lab : Nat → SS → Option (RT.den F122.rs)) (t2 : Tm) (t3 : Tm) : F122.at (bodyOf Try.f122) tabR tyR true (cs122 s122 n) lab 1 (st122_1 t2 t3) = o122_1 s122 n (fun t2 t3 t43 t44 => lab 2 (st122_2 t2 t3 t43 t44)) t2 t3 := by kernel_rfl
theorem p122_2 (s122 : Tm → Tm → Option Bool) (n : Nat) (lab : Nat → SS → Option (RT.den F122.rs)) (t2 : Tm) (t3 : Tm) (t43 : Int) (t44 : Int) : F122.at (bodyOf Try.f122) tabR tyR true (cs122 s122 n) lab 2 (st122_2 t2 t3 t43 t44) = o122_2 s122 n (fun t2 t3 t43 t44 => lab 2 (st122_2 t2 t3 t43 t44)) t2 t3 t43 t44 := by kernel_rfl
theorem n122_1 (s122 : Tm → Tm → Option Bool) (n : Nat) (rec : Nat → SS → Option (RT.den F122.rs)) (k2 : Tm → Tm → Int → Int → Option Bool) (h2 : ∀ t2 t3 t43 t44, rec 2 (st122_2 t2 t3 t43 t44) = k2 t2 t3 t43 t44) (d : Nat) (t2 : Tm) (t3 : Tm) : F122.labD (bodyOf Try.f122) tabR tyR true (cs122 s122 n) rec (d + 1) 1 (st122_1 t2 t3) = c122_1 s122 n k2 t2 t3 := by
  have e2 : ∀ t2 t3 t43 t44, F122.labX (bodyOf Try.f122) tabR tyR true (cs122 s122 n) rec d 2 (st122_2 t2 t3 t43 t44) = k2 t2 t3 t43 t44 := fun t2 t3 t43 t44 => (Fn.labX_loop _ _ _ _ _ _ _ _ _ _ (by kernel_rfl)).trans (h2 t2 t3 t43 t44)
  show F122.labD (bodyOf Try.f122) tabR tyR true (cs122 s122 n) rec (d + 1) 1 _ = _
  rw [Fn.labD_succ, p122_1]
  simp only [e2]
  rfl
theorem m122_2 (s122 : Tm → Tm → Option Bool) (n : Nat) : ∀ m : Nat, (∀ t2 t3 t43 t44, F122.labM (bodyOf Try.f122) tabR tyR true (cs122 s122 n) m 2 (st122_2 t2 t3 t43 t44) = l122_2 s122 n m t2 t3 t43 t44) := by
  intro m
  induction m with
  | zero => exact fun _ _ _ _ => rfl
  | succ m ih =>
    intro t2 t3 t43 t44
    have e2 : ∀ t2 t3 t43 t44, F122.labX (bodyOf Try.f122) tabR tyR true (cs122 s122 n) (F122.labM (bodyOf Try.f122) tabR tyR true (cs122 s122 n) m) 3 2 (st122_2 t2 t3 t43 t44) = (l122_2 s122 n m) t2 t3 t43 t44 := fun t2 t3 t43 t44 => (Fn.labX_loop _ _ _ _ _ _ _ _ _ _ (by kernel_rfl)).trans (ih t2 t3 t43 t44)
    rw [Fn.labM_succ]
    show F122.labD (bodyOf Try.f122) tabR tyR true (cs122 s122 n) (F122.labM (bodyOf Try.f122) tabR tyR true (cs122 s122 n) m) (3 + 1) 2 _ = _
    rw [Fn.labD_succ, p122_2]
    simp only [e2]
    rfl
theorem w122 (s122 : Tm → Tm → Option Bool) (n : Nat) (x : PTs.den F122.ps) : F122.body (bodyOf Try.f122) tabR tyR true (cs122 s122 n) (F122.labX (bodyOf Try.f122) tabR tyR true (cs122 s122 n) (F122.labM (bodyOf Try.f122) tabR tyR true (cs122 s122 n) n) F122.D) x = o122_0 s122 n (c122_1 s122 n (l122_2 s122 n n)) x.1 x.2.1 := by
  have e1 : ∀ t2 t3, F122.labX (bodyOf Try.f122) tabR tyR true (cs122 s122 n) (F122.labM (bodyOf Try.f122) tabR tyR true (cs122 s122 n) n) 4 1 (st122_1 t2 t3) = c122_1 s122 n (l122_2 s122 n n) t2 t3 := fun t2 t3 => (Fn.labX_step _ _ _ _ _ _ _ _ _ _ (by kernel_rfl)).trans (n122_1 s122 n (F122.labM (bodyOf Try.f122) tabR tyR true (cs122 s122 n) n) (l122_2 s122 n n) (m122_2 s122 n n) 3 t2 t3)
  show F122.body (bodyOf Try.f122) tabR tyR true (cs122 s122 n) (F122.labX (bodyOf Try.f122) tabR tyR true (cs122 s122 n) (F122.labM (bodyOf Try.f122) tabR tyR true (cs122 s122 n) n) 4) x = _
  rw [p122_0]
  simp only [e1]
  try rfl
theorem call122 : Callable Try.prog 122 := callable_of Try.func122 (by kernel_rfl) (by kernel_rfl)
theorem okr122 : ∀ n : Nat, Cal.Ok Try.prog ⟨122, F122.ps, F122.rs, F122.fr, fun a => f122 n a.1 a.2.1⟩
  | 0 => ⟨by kernel_rfl, fun a r h => by cases h⟩
  | n + 1 => cal_of_fn F122 (code := bodyOf Try.f122) Try.func122 (by kernel_rfl) (by kernel_rfl) call122 htabR (cs := cs122 (f122 n) n) (fun c hc => by
      simp only [cs122, List.mem_cons, List.not_mem_nil, or_false] at hc
      rcases hc with rfl
      · exact (okr122 n)) (fun _ => mixed) (by kernel_rfl) (by kernel_rfl) (by decide) (fun x => ⟨n, w122 (f122 n) n x⟩)
theorem ok122 (n : Nat) : Cal.Ok Try.prog ⟨122, F122.ps, F122.rs, F122.fr, fun a => f122 n a.1 a.2.1⟩ := (okr122 n)
-- tranship/transhipref04.Pure
def o74_0 (n : Nat) (a0 : Tm) : Option Bool :=
  (f70 n a0).bind fun x1 =>
  if x1 then
    (f71 n a0).bind fun x2 =>
    some (decide (x2 = (0 : Int)))
  else
    some false
def f74 (n : Nat) (a0 : Tm) : Option Bool := o74_0 n a0
def an74 : An := .z
def F74 : Fn := { f := 74, a := an74, vars := [.tmp 2], ps := [.st .tm], rs := [.sc .bool], own := false, fr := true, nt := 10, D := 2, loops := [] }
def cs74 (n : Nat) : List Cal := [⟨70, [.st .tm], [.sc .bool], true, fun a => f70 n a.1⟩, ⟨71, [.st .tm], [.sc .int], true, fun a => f71 n a.1⟩]
theorem p74_0 (n : Nat) (lab : Nat → SS → Option (RT.den F74.rs)) (x : PTs.den F74.ps) : F74.body (bodyOf Try.f74) tabR tyR true (cs74 n) lab x = o74_0 n x.1 := by kernel_rfl
theorem w74 (n : Nat) (x : PTs.den F74.ps) : F74.body (bodyOf Try.f74) tabR tyR true (cs74 n) (F74.labX (bodyOf Try.f74) tabR tyR true (cs74 n) (F74.labM (bodyOf Try.f74) tabR tyR true (cs74 n) 0) F74.D) x = o74_0 n x.1 := by
  show F74.body (bodyOf Try.f74) tabR tyR true (cs74 n) (F74.labX (bodyOf Try.f74) tabR tyR true (cs74 n) (F74.labM (bodyOf Try.f74) tabR tyR true (cs74 n) 0) 2) x = _
  rw [p74_0]
theorem call74 : Callable Try.prog 74 := callable_of Try.func74 (by kernel_rfl) (by kernel_rfl)
theorem ok74 (n : Nat) : Cal.Ok Try.prog ⟨74, F74.ps, F74.rs, F74.fr, fun a => f74 n a.1⟩ :=
  cal_of_fn F74 (code := bodyOf Try.f74) Try.func74 (by kernel_rfl) (by kernel_rfl) call74 htabR (cs := cs74 n) (fun c hc => by
      simp only [cs74, List.mem_cons, List.not_mem_nil, or_false] at hc
      rcases hc with rfl | rfl
      · exact ok70 n
      · exact ok71 n) (fun _ => mixed) (by kernel_rfl) (by kernel_rfl) (by decide) (fun x => ⟨0, w74 n x⟩)
-- tranship/transhipref04.Same
def o123_0 (s123 : Tm → Tm → Option Bool) (n : Nat) (k1 : Tm → Tm → Option Bool) (a0 : Tm) (a1 : Tm) : Option Bool :=
  if (!decide (a0.kind = a1.kind)) then
    some false
  else
    if (!decide (a0.i = a1.i)) then
      some false
    else
      if (!decide (a0.j = a1.j)) then
        some false
      else
        if (!decide (a0.n = a1.n)) then
          some false
        else
          if (!decide ((a0.kids.length : Int) = (a1.kids.length : Int))) then
            some false
          else
            k1 a0 a1
def o123_1 (s123 : Tm → Tm → Option Bool) (n : Nat) (k2 : Tm → Tm → Int → Option Bool) (t2 : Tm) (t3 : Tm) : Option Bool :=
  k2 t2 t3 (0 : Int)
def o123_2 (s123 : Tm → Tm → Option Bool) (n : Nat) (k2 : Tm → Tm → Int → Option Bool) (t2 : Tm) (t3 : Tm) (t5 : Int) : Option Bool :=
  if (decide (t5 < (t2.kids.length : Int))) then
    atI t2.kids t5 fun x1 =>
    atI t3.kids t5 fun x2 =>
    (s123 x1 x2).bind fun x3 =>
    if (!x3) then
      some false
    else
      ckI (t5 + (1 : Int)) <|
      k2 t2 t3 (t5 + (1 : Int))
  else
    some true
def c123_1 (s123 : Tm → Tm → Option Bool) (n : Nat) (k2 : Tm → Tm → Int → Option Bool) (t2 : Tm) (t3 : Tm) : Option Bool :=
  o123_1 s123 n k2 t2 t3
def l123_2 (s123 : Tm → Tm → Option Bool) (n : Nat) : Nat → Tm → Tm → Int → Option Bool
  | 0, _, _, _ => none
  | m + 1, t2, t3, t5 => o123_2 s123 n (l123_2 s123 n m) t2 t3 t5
def f123 : Nat → Tm → Tm → Option Bool
  | 0, _, _ => none
  | n + 1, a0, a1 => o123_0 (f123 n) n (c123_1 (f123 n) n (l123_2 (f123 n) n n)) a0 a1
def an123 : An := (.n none [] 0 .z (.n (some 1) [(2, .ps 0 .tm false), (3, .ps 1 .tm false)] 2 .z (.n none [] 0 (.n none [] 0 .z (.n none [] 0 (.n (some 2) [(2, .ps 0 .tm false), (3, .ps 1 .tm false), (5, .one .c)] 2 .z .z) .z)) .z)))
def F123 : Fn := { f := 123, a := an123, vars := [.tmp 4], ps := [.st .tm, .st .tm], rs := [.sc .bool], own := false, fr := true, nt := 60, D := 4, loops := [2] }
def cs123 (s123 : Tm → Tm → Option Bool) (n : Nat) : List Cal := [⟨123, [.st .tm, .st .tm], [.sc .bool], true, fun a => s123 a.1 a.2.1⟩]
def st123_1 (t2 : Tm) (t3 : Tm) : SS := ⟨[(2, .v (.one (.ptr 0 0))), (3, .v (.one (.ptr 1 0)))], [(0, some (.bst .tm t2 false)), (1, some (.bst .tm t3 false))], 2⟩
def st123_2 (t2 : Tm) (t3 : Tm) (t5 : Int) : SS := ⟨[(2, .v (.one (.ptr 0 0))), (3, .v (.one (.ptr 1 0))), (5, .v (.one (.c (.int t5) true)))], [(0, some (.bst .tm t2 false)), (1, some (.bst .tm t3 false))], 2⟩
theorem p123_0 (s123 : Tm → Tm → Option Bool) (n : Nat) (lab : Nat → SS → Option (RT.den F123.rs)) (x : PTs.den F123.ps) : F123.body (bodyOf Try.f123) tabR tyR true (cs123 s123 n) lab x = o123_0 s123 n (fun t2 t3 => lab 1 (st123_1 t2 t3)) x.1 x.2.1 := by kernel_rfl
theorem p123_1 (s123 : Tm → Tm → Option Bool) (n : Nat) (lab : Nat → SS → Option (RT.den F123.rs)) (t2 : Tm) (t3 : Tm) : F123.at (bodyOf Try.f123) tabR tyR true (cs123 s123 n) lab 1 (st123_1 t2 t3) = o123_1 s123 n (fun t2 t3 t5 => lab 2 (st123_2 t2 t3 t5)) t2 t3 := by kernel_rfl
theorem p123_2 (s123 : Tm → Tm → Option Bool) (n : Nat) (lab : Nat → SS → Option (RT.den F123.rs)) (t2 : Tm) (t3 : Tm) (t5 : Int) : F123.at (bodyOf Try.f123) tabR tyR true (cs123 s123 n) lab 2 (st123_2 t2 t3 t5) = o123_2 s123 n (fun t2 t3 t5 => lab 2 (st123_2 t2 t3 t5)) t2 t3 t5 := by kernel_rfl
theorem n123_1 (s123 : Tm → Tm → Option Bool) (n : Nat) (rec : Nat → SS → Option (RT.den F123.rs)) (k2 : Tm → Tm → Int → Option Bool) (h2 : ∀ t2 t3 t5, rec 2 (st123_2 t2 t3 t5) = k2 t2 t3 t5) (d : Nat) (t2 : Tm) (t3 : Tm) : F123.labD (bodyOf Try.f123) tabR tyR true (cs123 s123 n) rec (d + 1) 1 (st123_1 t2 t3) = c123_1 s123 n k2 t2 t3 := by
  have e2 : ∀ t2 t3 t5, F123.labX (bodyOf Try.f123) tabR tyR true (cs123 s123 n) rec d 2 (st123_2 t2 t3 t5) = k2 t2 t3 t5 := fun t2 t3 t5 => (Fn.labX_loop _ _ _ _ _ _ _ _ _ _ (by kernel_rfl)).trans (h2 t2 t3 t5)
  show F123.labD (bodyOf Try.f123) tabR tyR true (cs123 s123 n) rec (d + 1) 1 _ = _
  rw [Fn.labD_succ, p123_1]
  simp only [e2]
  rfl
theorem m123_2 (s123 : Tm → Tm → Option Bool) (n : Nat) : ∀ m : Nat, (∀ t2 t3 t5, F123.labM (bodyOf Try.f123) tabR tyR true (cs123 s123 n) m 2 (st123_2 t2 t3 t5) = l123_2 s123 n m t2 t3 t5) := by
  intro m
  induction m with
  | zero => exact fun _ _ _ => rfl
  | succ m ih =>
    intro t2 t3 t5
    have e2 : ∀ t2 t3 t5, F123.labX (bodyOf Try.f123) tabR tyR true (cs123 s123 n) (F123.labM (bodyOf Try.f123) tabR tyR true (cs123 s123 n) m) 3 2 (st123_2 t2 t3 t5) = (l123_2 s123 n m) t2 t3 t5 := fun t2 t3 t5 => (Fn.labX_loop _ _ _ _ _ _ _ _ _ _ (by kernel_rfl)).trans (ih t2 t3 t5)
    rw [Fn.labM_succ]
    show F123.labD (bodyOf Try.f123) tabR tyR true (cs123 s123 n) (F123.labM (bodyOf Try.f123) tabR tyR true (cs123 s123 n) m) (3 + 1) 2 _ = _
    rw [Fn.labD_succ, p123_2]
    simp only [e2]
    rfl
theorem w123 (s123 : Tm → Tm → Option Bool) (n : Nat) (x : PTs.den F123.ps) : F123.body (bodyOf Try.f123) tabR tyR true (cs123 s123 n) (F123.labX (bodyOf Try.f123) tabR tyR true (cs123 s123 n) (F123.labM (bodyOf Try.f123) tabR tyR true (cs123 s123 n) n) F123.D) x = o123_0 s123 n (c123_1 s123 n (l123_2 s123 n n)) x.1 x.2.1 := by
  have e1 : ∀ t2 t3, F123.labX (bodyOf Try.f123) tabR tyR true (cs123 s123 n) (F123.labM (bodyOf Try.f123) tabR tyR true (cs123 s123 n) n) 4 1 (st123_1 t2 t3) = c123_1 s123 n (l123_2 s123 n n) t2 t3 := fun t2 t3 => (Fn.labX_step _ _ _ _ _ _ _ _ _ _ (by kernel_rfl)).trans (n123_1 s123 n (F123.labM (bodyOf Try.f123) tabR tyR true (cs123 s123 n) n) (l123_2 s123 n n) (m123_2 s123 n n) 3 t2 t3)
  show F123.body (bodyOf Try.f123) tabR tyR true (cs123 s123 n) (F123.labX (bodyOf Try.f123) tabR tyR true (cs123 s123 n) (F123.labM (bodyOf Try.f123) tabR tyR true (cs123 s123 n) n) 4) x = _
  rw [p123_0]
  simp only [e1]
  try rfl
theorem call123 : Callable Try.prog 123 := callable_of Try.func123 (by kernel_rfl) (by kernel_rfl)
theorem okr123 : ∀ n : Nat, Cal.Ok Try.prog ⟨123, F123.ps, F123.rs, F123.fr, fun a => f123 n a.1 a.2.1⟩
  | 0 => ⟨by kernel_rfl, fun a r h => by cases h⟩
  | n + 1 => cal_of_fn F123 (code := bodyOf Try.f123) Try.func123 (by kernel_rfl) (by kernel_rfl) call123 htabR (cs := cs123 (f123 n) n) (fun c hc => by
      simp only [cs123, List.mem_cons, List.not_mem_nil, or_false] at hc
      rcases hc with rfl
      · exact (okr123 n)) (fun _ => mixed) (by kernel_rfl) (by kernel_rfl) (by decide) (fun x => ⟨n, w123 (f123 n) n x⟩)
theorem ok123 (n : Nat) : Cal.Ok Try.prog ⟨123, F123.ps, F123.rs, F123.fr, fun a => f123 n a.1 a.2.1⟩ := (okr123 n)
-- tranship/bare.Of
def o141_0 (a0 : Int) (a1 : Int) (a2 : Int) (a3 : Int) (a4 : List Tm) : Option Tm :=
  if (decide ((0 : Int) < (a4.length : Int))) then
    ckB (decide (a4.length * 56 ≤ 140737488355328) && decide (a4.length ≤ 9223372036854775807)) <|
    some (Tm.mk a0 a1 a2 a3 a4)
  else
    some (Tm.mk a0 a1 a2 a3 ([] : List Tm))
def f141 (a0 : Int) (a1 : Int) (a2 : Int) (a3 : Int) (a4 : List Tm) : Option Tm := o141_0 a0 a1 a2 a3 a4
def an141 : An := .z
def F141 : Fn := { f := 141, a := an141, vars := [.cell 10 45], ps := [.sc .int, .sc .int, .sc .int, .sc .int, .sl .tm], rs := [.st .tm], own := false, fr := false, nt := 24, D := 2, loops := [] }
def cs141 : List Cal := []
theorem p141_0 (lab : Nat → SS → Option (RT.den F141.rs)) (x : PTs.den F141.ps) : F141.body (bodyOf Try.f141) tabR tyR true cs141 lab x = o141_0 x.1 x.2.1 x.2.2.1 x.2.2.2.1 x.2.2.2.2.1 := by kernel_rfl
theorem w141 (x : PTs.den F141.ps) : F141.body (bodyOf Try.f141) tabR tyR true cs141 (F141.labX (bodyOf Try.f141) tabR tyR true cs141 (F141.labM (bodyOf Try.f141) tabR tyR true cs141 0) F141.D) x = o141_0 x.1 x.2.1 x.2.2.1 x.2.2.2.1 x.2.2.2.2.1 := by
  show F141.body (bodyOf Try.f141) tabR tyR true cs141 (F141.labX (bodyOf Try.f141) tabR tyR true cs141 (F141.labM (bodyOf Try.f141) tabR tyR true cs141 0) 2) x = _
  rw [p141_0]
theorem call141 : Callable Try.prog 141 := callable_of Try.func141 (by kernel_rfl) (by kernel_rfl)
theorem ok141 : Cal.Ok Try.prog ⟨141, F141.ps, F141.rs, F141.fr, fun a => f141 a.1 a.2.1 a.2.2.1 a.2.2.2.1 a.2.2.2.2.1⟩ :=
  cal_of_fn F141 (code := bodyOf Try.f141) Try.func141 (by kernel_rfl) (by kernel_rfl) call141 htabR (cs := cs141) (fun c hc => by simp only [cs141, List.not_mem_nil] at hc) (fun _ => mixed) (by kernel_rfl) (by kernel_rfl) (by decide) (fun x => ⟨0, w141 x⟩)
-- tranship/bare.Copy
def o142_0 (s142 : Tm → Option Tm) (n : Nat) (k1 : Tm → Int → Int → Int → Int → (List Tm) → (List Tm) → Int → Int → Option Tm) (a0 : Tm) : Option Tm :=
  if (decide ((a0.kids.length : Int) = (0 : Int))) then
    some (Tm.mk a0.kind a0.i a0.j a0.n ([] : List Tm))
  else
    ckB (decide (0 ≤ (a0.kids.length : Int)) && (decide ((a0.kids.length : Int) ≤ (a0.kids.length : Int)) && decide ((56 : Nat) * (a0.kids.length : Int) ≤ 281474976710656))) <|
    k1 a0 (0 : Int) (0 : Int) (0 : Int) (0 : Int) (List.replicate (a0.kids.length : Int).toNat (Tm.mk (0 : Int) (0 : Int) (0 : Int) (0 : Int) ([] : List Tm))) a0.kids (a0.kids.length : Int) (0 : Int)
def o142_1 (s142 : Tm → Option Tm) (n : Nat) (k1 : Tm → Int → Int → Int → Int → (List Tm) → (List Tm) → Int → Int → Option Tm) (t1 : Tm) (t2_0 : Int) (t2_1 : Int) (t2_2 : Int) (t2_3 : Int) (t3 : List Tm) (t17 : List Tm) (t18 : Int) (t19 : Int) : Option Tm :=
  if (decide (t19 < t18)) then
    atI t17 t19 fun x1 =>
    (s142 x1).bind fun x2 =>
    ckB (decide (0 ≤ t19) && decide (t19 < t3.length)) <|
    ckB (decide (t19.toNat < t3.length)) <|
    ckI (t19 + (1 : Int)) <|
    k1 t1 t2_0 t2_1 t2_2 t2_3 (t3.set t19.toNat (Tm.mk x2.kind x2.i x2.j x2.n x2.kids)) t17 t18 (t19 + (1 : Int))
  else
    some (Tm.mk t1.kind t1.i t1.j t1.n t3)
def l142_1 (s142 : Tm → Option Tm) (n : Nat) : Nat → Tm → Int → Int → Int → Int → (List Tm) → (List Tm) → Int → Int → Option Tm
  | 0, _, _, _, _, _, _, _, _, _ => none
  | m + 1, t1, t2_0, t2_1, t2_2, t2_3, t3, t17, t18, t19 => o142_1 s142 n (l142_1 s142 n m) t1 t2_0 t2_1 t2_2 t2_3 t3 t17 t18 t19
def f142 : Nat → Tm → Option Tm
  | 0, _ => none
  | n + 1, a0 => o142_0 (f142 n) n (l142_1 (f142 n) n n) a0
def an142 : An := (.n none [] 0 .z (.n none [] 0 .z (.n none [] 0 .z (.n none [] 0 (.n none [] 0 .z (.n none [] 0 (.n (some 1) [(1, .ps 0 .tm false), (2, .p 1 [.c, .c, .c, .c, .k]), (3, .one (.r 2 45 .tm true)), (17, .one (.d .tm false)), (18, .one .c), (19, .one .c)] 3 .z .z) .z)) .z))))
def F142 : Fn := { f := 142, a := an142, vars := [.cell 2 45], ps := [.st .tm], rs := [.st .tm], own := false, fr := true, nt := 33, D := 3, loops := [1] }
def cs142 (s142 : Tm → Option Tm) (n : Nat) : List Cal := [⟨142, [.st .tm], [.st .tm], true, fun a => s142 a.1⟩]
def st142_1 (t1 : Tm) (t2_0 : Int) (t2_1 : Int) (t2_2 : Int) (t2_3 : Int) (t3 : List Tm) (t17 : List Tm) (t18 : Int) (t19 : Int) : SS := ⟨[(1, .v (.one (.ptr 0 0))), (2, .v (.one (.ptr 1 0))), (3, .v (.one (.arr 2))), (17, .v (.one (.c (.sl .tm t17) false))), (18, .v (.one (.c (.int t18) true))), (19, .v (.one (.c (.int t19) true)))], [(0, some (.bst .tm t1 false)), (1, some (.box [.c (.int t2_0) true, .c (.int t2_1) true, .c (.int t2_2) true, .c (.int t2_3) true, .nils])), (2, some (.row 45 .tm t3 true))], 3⟩
theorem p142_0 (s142 : Tm → Option Tm) (n : Nat) (lab : Nat → SS → Option (RT.den F142.rs)) (x : PTs.den F142.ps) : F142.body (bodyOf Try.f142) tabR tyR true (cs142 s142 n) lab x = o142_0 s142 n (fun t1 t2_0 t2_1 t2_2 t2_3 t3 t17 t18 t19 => lab 1 (st142_1 t1 t2_0 t2_1 t2_2 t2_3 t3 t17 t18 t19)) x.1 := by kernel_rfl
theorem p142_1 (s142 : Tm → Option Tm) (n : Nat) (lab : Nat → SS → Option (RT.den F142.rs)) (t1 : Tm) (t2_0 : Int) (t2_1 : Int) (t2_2 : Int) (t2_3 : Int) (t3 : List Tm) (t17 : List Tm) (t18 : Int) (t19 : Int) : F142.at (bodyOf Try.f142) tabR tyR true (cs142 s142 n) lab 1 (st142_1 t1 t2_0 t2_1 t2_2 t2_3 t3 t17 t18 t19) = o142_1 s142 n (fun t1 t2_0 t2_1 t2_2 t2_3 t3 t17 t18 t19 => lab 1 (st142_1 t1 t2_0 t2_1 t2_2 t2_3 t3 t17 t18 t19)) t1 t2_0 t2_1 t2_2 t2_3 t3 t17 t18 t19 := by kernel_rfl
theorem m142_1 (s142 : Tm → Option Tm) (n : Nat) : ∀ m : Nat, (∀ t1 t2_0 t2_1 t2_2 t2_3 t3 t17 t18 t19, F142.labM (bodyOf Try.f142) tabR tyR true (cs142 s142 n) m 1 (st142_1 t1 t2_0 t2_1 t2_2 t2_3 t3 t17 t18 t19) = l142_1 s142 n m t1 t2_0 t2_1 t2_2 t2_3 t3 t17 t18 t19) := by
  intro m
  induction m with
  | zero => exact fun _ _ _ _ _ _ _ _ _ => rfl
  | succ m ih =>
    intro t1 t2_0 t2_1 t2_2 t2_3 t3 t17 t18 t19
    have e1 : ∀ t1 t2_0 t2_1 t2_2 t2_3 t3 t17 t18 t19, F142.labX (bodyOf Try.f142) tabR tyR true (cs142 s142 n) (F142.labM (bodyOf Try.f142) tabR tyR true (cs142 s142 n) m) 2 1 (st142_1 t1 t2_0 t2_1 t2_2 t2_3 t3 t17 t18 t19) = (l142_1 s142 n m) t1 t2_0 t2_1 t2_2 t2_3 t3 t17 t18 t19 := fun t1 t2_0 t2_1 t2_2 t2_3 t3 t17 t18 t19 => (Fn.labX_loop _ _ _ _ _ _ _ _ _ _ (by kernel_rfl)).trans (ih t1 t2_0 t2_1 t2_2 t2_3 t3 t17 t18 t19)
    rw [Fn.labM_succ]
    show F142.labD (bodyOf Try.f142) tabR tyR true (cs142 s142 n) (F142.labM (bodyOf Try.f142) tabR tyR true (cs142 s142 n) m) (2 + 1) 1 _ = _
    rw [Fn.labD_succ, p142_1]
    simp only [e1]
    rfl
theorem w142 (s142 : Tm → Option Tm) (n : Nat) (x : PTs.den F142.ps) : F142.body (bodyOf Try.f142) tabR tyR true (cs142 s142 n) (F142.labX (bodyOf Try.f142) tabR tyR true (cs142 s142 n) (F142.labM (bodyOf Try.f142) tabR tyR true (cs142 s142 n) n) F142.D) x = o142_0 s142 n (l142_1 s142 n n) x.1 := by
  have e1 : ∀ t1 t2_0 t2_1 t2_2 t2_3 t3 t17 t18 t19, F142.labX (bodyOf Try.f142) tabR tyR true (cs142 s142 n) (F142.labM (bodyOf Try.f142) tabR tyR true (cs142 s142 n) n) 3 1 (st142_1 t1 t2_0 t2_1 t2_2 t2_3 t3 t17 t18 t19) = (l142_1 s142 n n) t1 t2_0 t2_1 t2_2 t2_3 t3 t17 t18 t19 := fun t1 t2_0 t2_1 t2_2 t2_3 t3 t17 t18 t19 => (Fn.labX_loop _ _ _ _ _ _ _ _ _ _ (by kernel_rfl)).trans ((m142_1 s142 n n) t1 t2_0 t2_1 t2_2 t2_3 t3 t17 t18 t19)
  show F142.body (bodyOf Try.f142) tabR tyR true (cs142 s142 n) (F142.labX (bodyOf Try.f142) tabR tyR true (cs142 s142 n) (F142.labM (bodyOf Try.f142) tabR tyR true (cs142 s142 n) n) 3) x = _
  rw [p142_0]
  simp only [e1]
  try rfl
theorem call142 : Callable Try.prog 142 := callable_of Try.func142 (by kernel_rfl) (by kernel_rfl)
theorem okr142 : ∀ n : Nat, Cal.Ok Try.prog ⟨142, F142.ps, F142.rs, F142.fr, fun a => f142 n a.1⟩
  | 0 => ⟨by kernel_rfl, fun a r h => by cases h⟩
  | n + 1 => cal_of_fn F142 (code := bodyOf Try.f142) Try.func142 (by kernel_rfl) (by kernel_rfl) call142 htabR (cs := cs142 (f142 n) n) (fun c hc => by
      simp only [cs142, List.mem_cons, List.not_mem_nil, or_false] at hc
      rcases hc with rfl
      · exact (okr142 n)) (fun _ => mixed) (by kernel_rfl) (by kernel_rfl) (by decide) (fun x => ⟨n, w142 (f142 n) n x⟩)
theorem ok142 (n : Nat) : Cal.Ok Try.prog ⟨142, F142.ps, F142.rs, F142.fr, fun a => f142 n a.1⟩ := (okr142 n)
-- tranship/transhipref04.Right
def o81_0 (n : Nat) (a0 : Tm) : Option Bool :=
  (f70 n a0).bind fun x1 =>
  if x1 then
    some true
  else
    (f77 n a0).bind fun x2 =>
    some x2
def f81 (n : Nat) (a0 : Tm) : Option Bool := o81_0 n a0
def an81 : An := .z
def F81 : Fn := { f := 81, a := an81, vars := [.tmp 2], ps := [.st .tm], rs := [.sc .bool], own := false, fr := true, nt := 9, D := 2, loops := [] }
def cs81 (n : Nat) : List Cal := [⟨70, [.st .tm], [.sc .bool], true, fun a => f70 n a.1⟩, ⟨77, [.st .tm], [.sc .bool], true, fun a => f77 n a.1⟩]
theorem p81_0 (n : Nat) (lab : Nat → SS → Option (RT.den F81.rs)) (x : PTs.den F81.ps) : F81.body (bodyOf Try.f81) tabR tyR true (cs81 n) lab x = o81_0 n x.1 := by kernel_rfl
theorem w81 (n : Nat) (x : PTs.den F81.ps) : F81.body (bodyOf Try.f81) tabR tyR true (cs81 n) (F81.labX (bodyOf Try.f81) tabR tyR true (cs81 n) (F81.labM (bodyOf Try.f81) tabR tyR true (cs81 n) 0) F81.D) x = o81_0 n x.1 := by
  show F81.body (bodyOf Try.f81) tabR tyR true (cs81 n) (F81.labX (bodyOf Try.f81) tabR tyR true (cs81 n) (F81.labM (bodyOf Try.f81) tabR tyR true (cs81 n) 0) 2) x = _
  rw [p81_0]
theorem call81 : Callable Try.prog 81 := callable_of Try.func81 (by kernel_rfl) (by kernel_rfl)
theorem ok81 (n : Nat) : Cal.Ok Try.prog ⟨81, F81.ps, F81.rs, F81.fr, fun a => f81 n a.1⟩ :=
  cal_of_fn F81 (code := bodyOf Try.f81) Try.func81 (by kernel_rfl) (by kernel_rfl) call81 htabR (cs := cs81 n) (fun c hc => by
      simp only [cs81, List.mem_cons, List.not_mem_nil, or_false] at hc
      rcases hc with rfl | rfl
      · exact ok70 n
      · exact ok77 n) (fun _ => mixed) (by kernel_rfl) (by kernel_rfl) (by decide) (fun x => ⟨0, w81 n x⟩)
-- tranship/transhipref04.free
def o127_0 (s127 : Tm → Option Int) (n : Nat) (k1 : Tm → Int → Int → Option Int) (a0 : Tm) : Option Int :=
  if (decide (a0.kind = (2 : Int))) then
    ckI (a0.i + (1 : Int)) <|
    some (a0.i + (1 : Int))
  else
    k1 a0 (0 : Int) (0 : Int)
def o127_1 (s127 : Tm → Option Int) (n : Nat) (k1 : Tm → Int → Int → Option Int) (t1 : Tm) (t3 : Int) (t4 : Int) : Option Int :=
  if (decide (t4 < (t1.kids.length : Int))) then
    atI t1.kids t4 fun x1 =>
    (s127 x1).bind fun x2 =>
    (f60 t1.kind t4).bind fun x3 =>
    ckI (x2 - x3) <|
    ckI (t4 + (1 : Int)) <|
    k1 t1 (max t3 (x2 - x3)) (t4 + (1 : Int))
  else
    some t3
def l127_1 (s127 : Tm → Option Int) (n : Nat) : Nat → Tm → Int → Int → Option Int
  | 0, _, _, _ => none
  | m + 1, t1, t3, t4 => o127_1 s127 n (l127_1 s127 n m) t1 t3 t4
def f127 : Nat → Tm → Option Int
  | 0, _ => none
  | n + 1, a0 => o127_0 (f127 n) n (l127_1 (f127 n) n n) a0
def an127 : An := (.n none [] 0 .z (.n none [] 0 .z (.n none [] 0 .z (.n none [] 0 (.n none [] 0 .z (.n none [] 0 (.n (some 1) [(1, .ps 0 .tm false), (3, .one .c), (4, .one .c)] 1 .z .z) .z)) .z))))
def F127 : Fn := { f := 127, a := an127, vars := [.tmp 2], ps := [.st .tm], rs := [.sc .int], own := false, fr := true, nt := 32, D := 3, loops := [1] }
def cs127 (s127 : Tm → Option Int) (n : Nat) : List Cal := [⟨60, [.sc .int, .sc .int], [.sc .int], true, fun a => f60 a.1 a.2.1⟩, ⟨127, [.st .tm], [.sc .int], true, fun a => s127 a.1⟩]
def st127_1 (t1 : Tm) (t3 : Int) (t4 : Int) : SS := ⟨[(1, .v (.one (.ptr 0 0))), (3, .v (.one (.c (.int t3) true))), (4, .v (.one (.c (.int t4) true)))], [(0, some (.bst .tm t1 false))], 1⟩
theorem p127_0 (s127 : Tm → Option Int) (n : Nat) (lab : Nat → SS → Option (RT.den F127.rs)) (x : PTs.den F127.ps) : F127.body (bodyOf Try.f127) tabR tyR true (cs127 s127 n) lab x = o127_0 s127 n (fun t1 t3 t4 => lab 1 (st127_1 t1 t3 t4)) x.1 := by kernel_rfl
theorem p127_1 (s127 : Tm → Option Int) (n : Nat) (lab : Nat → SS → Option (RT.den F127.rs)) (t1 : Tm) (t3 : Int) (t4 : Int) : F127.at (bodyOf Try.f127) tabR tyR true (cs127 s127 n) lab 1 (st127_1 t1 t3 t4) = o127_1 s127 n (fun t1 t3 t4 => lab 1 (st127_1 t1 t3 t4)) t1 t3 t4 := by kernel_rfl
theorem m127_1 (s127 : Tm → Option Int) (n : Nat) : ∀ m : Nat, (∀ t1 t3 t4, F127.labM (bodyOf Try.f127) tabR tyR true (cs127 s127 n) m 1 (st127_1 t1 t3 t4) = l127_1 s127 n m t1 t3 t4) := by
  intro m
  induction m with
  | zero => exact fun _ _ _ => rfl
  | succ m ih =>
    intro t1 t3 t4
    have e1 : ∀ t1 t3 t4, F127.labX (bodyOf Try.f127) tabR tyR true (cs127 s127 n) (F127.labM (bodyOf Try.f127) tabR tyR true (cs127 s127 n) m) 2 1 (st127_1 t1 t3 t4) = (l127_1 s127 n m) t1 t3 t4 := fun t1 t3 t4 => (Fn.labX_loop _ _ _ _ _ _ _ _ _ _ (by kernel_rfl)).trans (ih t1 t3 t4)
    rw [Fn.labM_succ]
    show F127.labD (bodyOf Try.f127) tabR tyR true (cs127 s127 n) (F127.labM (bodyOf Try.f127) tabR tyR true (cs127 s127 n) m) (2 + 1) 1 _ = _
    rw [Fn.labD_succ, p127_1]
    simp only [e1]
    rfl
theorem w127 (s127 : Tm → Option Int) (n : Nat) (x : PTs.den F127.ps) : F127.body (bodyOf Try.f127) tabR tyR true (cs127 s127 n) (F127.labX (bodyOf Try.f127) tabR tyR true (cs127 s127 n) (F127.labM (bodyOf Try.f127) tabR tyR true (cs127 s127 n) n) F127.D) x = o127_0 s127 n (l127_1 s127 n n) x.1 := by
  have e1 : ∀ t1 t3 t4, F127.labX (bodyOf Try.f127) tabR tyR true (cs127 s127 n) (F127.labM (bodyOf Try.f127) tabR tyR true (cs127 s127 n) n) 3 1 (st127_1 t1 t3 t4) = (l127_1 s127 n n) t1 t3 t4 := fun t1 t3 t4 => (Fn.labX_loop _ _ _ _ _ _ _ _ _ _ (by kernel_rfl)).trans ((m127_1 s127 n n) t1 t3 t4)
  show F127.body (bodyOf Try.f127) tabR tyR true (cs127 s127 n) (F127.labX (bodyOf Try.f127) tabR tyR true (cs127 s127 n) (F127.labM (bodyOf Try.f127) tabR tyR true (cs127 s127 n) n) 3) x = _
  rw [p127_0]
  simp only [e1]
  try rfl
theorem call127 : Callable Try.prog 127 := callable_of Try.func127 (by kernel_rfl) (by kernel_rfl)
theorem okr127 : ∀ n : Nat, Cal.Ok Try.prog ⟨127, F127.ps, F127.rs, F127.fr, fun a => f127 n a.1⟩
  | 0 => ⟨by kernel_rfl, fun a r h => by cases h⟩
  | n + 1 => cal_of_fn F127 (code := bodyOf Try.f127) Try.func127 (by kernel_rfl) (by kernel_rfl) call127 htabR (cs := cs127 (f127 n) n) (fun c hc => by
      simp only [cs127, List.mem_cons, List.not_mem_nil, or_false] at hc
      rcases hc with rfl | rfl
      · exact ok60
      · exact (okr127 n)) (fun _ => mixed) (by kernel_rfl) (by kernel_rfl) (by decide) (fun x => ⟨n, w127 (f127 n) n x⟩)
theorem ok127 (n : Nat) : Cal.Ok Try.prog ⟨127, F127.ps, F127.rs, F127.fr, fun a => f127 n a.1⟩ := (okr127 n)
-- tranship/transhipref04.Free
def o82_0 (n : Nat) (a0 : Tm) : Option Int :=
  (f81 n a0).bind fun x1 =>
  if (!x1) then
    some (0 : Int)
  else
    (f127 n a0).bind fun x2 =>
    some x2
def f82 (n : Nat) (a0 : Tm) : Option Int := o82_0 n a0
def an82 : An := .z
def F82 : Fn := { f := 82, a := an82, vars := [.tmp 2], ps := [.st .tm], rs := [.sc .int], own := false, fr := true, nt := 8, D := 2, loops := [] }
def cs82 (n : Nat) : List Cal := [⟨81, [.st .tm], [.sc .bool], true, fun a => f81 n a.1⟩, ⟨127, [.st .tm], [.sc .int], true, fun a => f127 n a.1⟩]
theorem p82_0 (n : Nat) (lab : Nat → SS → Option (RT.den F82.rs)) (x : PTs.den F82.ps) : F82.body (bodyOf Try.f82) tabR tyR true (cs82 n) lab x = o82_0 n x.1 := by kernel_rfl
theorem w82 (n : Nat) (x : PTs.den F82.ps) : F82.body (bodyOf Try.f82) tabR tyR true (cs82 n) (F82.labX (bodyOf Try.f82) tabR tyR true (cs82 n) (F82.labM (bodyOf Try.f82) tabR tyR true (cs82 n) 0) F82.D) x = o82_0 n x.1 := by
  show F82.body (bodyOf Try.f82) tabR tyR true (cs82 n) (F82.labX (bodyOf Try.f82) tabR tyR true (cs82 n) (F82.labM (bodyOf Try.f82) tabR tyR true (cs82 n) 0) 2) x = _
  rw [p82_0]
theorem call82 : Callable Try.prog 82 := callable_of Try.func82 (by kernel_rfl) (by kernel_rfl)
theorem ok82 (n : Nat) : Cal.Ok Try.prog ⟨82, F82.ps, F82.rs, F82.fr, fun a => f82 n a.1⟩ :=
  cal_of_fn F82 (code := bodyOf Try.f82) Try.func82 (by kernel_rfl) (by kernel_rfl) call82 htabR (cs := cs82 n) (fun c hc => by
      simp only [cs82, List.mem_cons, List.not_mem_nil, or_false] at hc
      rcases hc with rfl | rfl
      · exact ok81 n
      · exact ok127 n) (fun _ => mixed) (by kernel_rfl) (by kernel_rfl) (by decide) (fun x => ⟨0, w82 n x⟩)
-- tranship/term.moved
def o129_0 (s129 : Tm → Option Bool) (n : Nat) (k1 : (List Tm) → Int → Int → Option Bool) (a0 : Tm) : Option Bool :=
  if (decide (a0.kind = (12 : Int))) then
    some true
  else
    k1 a0.kids (a0.kids.length : Int) (0 : Int)
def o129_1 (s129 : Tm → Option Bool) (n : Nat) (k1 : (List Tm) → Int → Int → Option Bool) (t9 : List Tm) (t10 : Int) (t11 : Int) : Option Bool :=
  if (decide (t11 < t10)) then
    atI t9 t11 fun x1 =>
    (s129 x1).bind fun x2 =>
    if x2 then
      some true
    else
      ckI (t11 + (1 : Int)) <|
      k1 t9 t10 (t11 + (1 : Int))
  else
    some false
def l129_1 (s129 : Tm → Option Bool) (n : Nat) : Nat → (List Tm) → Int → Int → Option Bool
  | 0, _, _, _ => none
  | m + 1, t9, t10, t11 => o129_1 s129 n (l129_1 s129 n m) t9 t10 t11
def f129 : Nat → Tm → Option Bool
  | 0, _ => none
  | n + 1, a0 => o129_0 (f129 n) n (l129_1 (f129 n) n n) a0
def an129 : An := (.n none [] 0 .z (.n none [] 0 .z (.n none [] 0 (.n none [] 0 .z (.n none [] 0 (.n (some 1) [(9, .one (.d .tm false)), (10, .one .c), (11, .one .c)] 0 .z .z) .z)) .z)))
def F129 : Fn := { f := 129, a := an129, vars := [.tmp 2], ps := [.st .tm], rs := [.sc .bool], own := false, fr := true, nt := 18, D := 3, loops := [1] }
def cs129 (s129 : Tm → Option Bool) (n : Nat) : List Cal := [⟨129, [.st .tm], [.sc .bool], true, fun a => s129 a.1⟩]
def st129_1 (t9 : List Tm) (t10 : Int) (t11 : Int) : SS := ⟨[(9, .v (.one (.c (.sl .tm t9) false))), (10, .v (.one (.c (.int t10) true))), (11, .v (.one (.c (.int t11) true)))], [], 0⟩
theorem p129_0 (s129 : Tm → Option Bool) (n : Nat) (lab : Nat → SS → Option (RT.den F129.rs)) (x : PTs.den F129.ps) : F129.body (bodyOf Try.f129) tabR tyR true (cs129 s129 n) lab x = o129_0 s129 n (fun t9 t10 t11 => lab 1 (st129_1 t9 t10 t11)) x.1 := by kernel_rfl
theorem p129_1 (s129 : Tm → Option Bool) (n : Nat) (lab : Nat → SS → Option (RT.den F129.rs)) (t9 : List Tm) (t10 : Int) (t11 : Int) : F129.at (bodyOf Try.f129) tabR tyR true (cs129 s129 n) lab 1 (st129_1 t9 t10 t11) = o129_1 s129 n (fun t9 t10 t11 => lab 1 (st129_1 t9 t10 t11)) t9 t10 t11 := by kernel_rfl
theorem m129_1 (s129 : Tm → Option Bool) (n : Nat) : ∀ m : Nat, (∀ t9 t10 t11, F129.labM (bodyOf Try.f129) tabR tyR true (cs129 s129 n) m 1 (st129_1 t9 t10 t11) = l129_1 s129 n m t9 t10 t11) := by
  intro m
  induction m with
  | zero => exact fun _ _ _ => rfl
  | succ m ih =>
    intro t9 t10 t11
    have e1 : ∀ t9 t10 t11, F129.labX (bodyOf Try.f129) tabR tyR true (cs129 s129 n) (F129.labM (bodyOf Try.f129) tabR tyR true (cs129 s129 n) m) 2 1 (st129_1 t9 t10 t11) = (l129_1 s129 n m) t9 t10 t11 := fun t9 t10 t11 => (Fn.labX_loop _ _ _ _ _ _ _ _ _ _ (by kernel_rfl)).trans (ih t9 t10 t11)
    rw [Fn.labM_succ]
    show F129.labD (bodyOf Try.f129) tabR tyR true (cs129 s129 n) (F129.labM (bodyOf Try.f129) tabR tyR true (cs129 s129 n) m) (2 + 1) 1 _ = _
    rw [Fn.labD_succ, p129_1]
    simp only [e1]
    rfl
theorem w129 (s129 : Tm → Option Bool) (n : Nat) (x : PTs.den F129.ps) : F129.body (bodyOf Try.f129) tabR tyR true (cs129 s129 n) (F129.labX (bodyOf Try.f129) tabR tyR true (cs129 s129 n) (F129.labM (bodyOf Try.f129) tabR tyR true (cs129 s129 n) n) F129.D) x = o129_0 s129 n (l129_1 s129 n n) x.1 := by
  have e1 : ∀ t9 t10 t11, F129.labX (bodyOf Try.f129) tabR tyR true (cs129 s129 n) (F129.labM (bodyOf Try.f129) tabR tyR true (cs129 s129 n) n) 3 1 (st129_1 t9 t10 t11) = (l129_1 s129 n n) t9 t10 t11 := fun t9 t10 t11 => (Fn.labX_loop _ _ _ _ _ _ _ _ _ _ (by kernel_rfl)).trans ((m129_1 s129 n n) t9 t10 t11)
  show F129.body (bodyOf Try.f129) tabR tyR true (cs129 s129 n) (F129.labX (bodyOf Try.f129) tabR tyR true (cs129 s129 n) (F129.labM (bodyOf Try.f129) tabR tyR true (cs129 s129 n) n) 3) x = _
  rw [p129_0]
  simp only [e1]
  try rfl
theorem call129 : Callable Try.prog 129 := callable_of Try.func129 (by kernel_rfl) (by kernel_rfl)
theorem okr129 : ∀ n : Nat, Cal.Ok Try.prog ⟨129, F129.ps, F129.rs, F129.fr, fun a => f129 n a.1⟩
  | 0 => ⟨by kernel_rfl, fun a r h => by cases h⟩
  | n + 1 => cal_of_fn F129 (code := bodyOf Try.f129) Try.func129 (by kernel_rfl) (by kernel_rfl) call129 htabR (cs := cs129 (f129 n) n) (fun c hc => by
      simp only [cs129, List.mem_cons, List.not_mem_nil, or_false] at hc
      rcases hc with rfl
      · exact (okr129 n)) (fun _ => mixed) (by kernel_rfl) (by kernel_rfl) (by decide) (fun x => ⟨n, w129 (f129 n) n x⟩)
theorem ok129 (n : Nat) : Cal.Ok Try.prog ⟨129, F129.ps, F129.rs, F129.fr, fun a => f129 n a.1⟩ := (okr129 n)
-- tranship/term.Pure
def o85_0 (n : Nat) (a0 : Tm) : Option Bool :=
  (f84 n a0).bind fun x1 =>
  if x1 then
    (f129 n a0).bind fun x2 =>
    some (!x2)
  else
    some false
def f85 (n : Nat) (a0 : Tm) : Option Bool := o85_0 n a0
def an85 : An := .z
def F85 : Fn := { f := 85, a := an85, vars := [.tmp 2], ps := [.st .tm], rs := [.sc .bool], own := false, fr := true, nt := 10, D := 2, loops := [] }
def cs85 (n : Nat) : List Cal := [⟨84, [.st .tm], [.sc .bool], true, fun a => f84 n a.1⟩, ⟨129, [.st .tm], [.sc .bool], true, fun a => f129 n a.1⟩]
theorem p85_0 (n : Nat) (lab : Nat → SS → Option (RT.den F85.rs)) (x : PTs.den F85.ps) : F85.body (bodyOf Try.f85) tabR tyR true (cs85 n) lab x = o85_0 n x.1 := by kernel_rfl
theorem w85 (n : Nat) (x : PTs.den F85.ps) : F85.body (bodyOf Try.f85) tabR tyR true (cs85 n) (F85.labX (bodyOf Try.f85) tabR tyR true (cs85 n) (F85.labM (bodyOf Try.f85) tabR tyR true (cs85 n) 0) F85.D) x = o85_0 n x.1 := by
  show F85.body (bodyOf Try.f85) tabR tyR true (cs85 n) (F85.labX (bodyOf Try.f85) tabR tyR true (cs85 n) (F85.labM (bodyOf Try.f85) tabR tyR true (cs85 n) 0) 2) x = _
  rw [p85_0]
theorem call85 : Callable Try.prog 85 := callable_of Try.func85 (by kernel_rfl) (by kernel_rfl)
theorem ok85 (n : Nat) : Cal.Ok Try.prog ⟨85, F85.ps, F85.rs, F85.fr, fun a => f85 n a.1⟩ :=
  cal_of_fn F85 (code := bodyOf Try.f85) Try.func85 (by kernel_rfl) (by kernel_rfl) call85 htabR (cs := cs85 n) (fun c hc => by
      simp only [cs85, List.mem_cons, List.not_mem_nil, or_false] at hc
      rcases hc with rfl | rfl
      · exact ok84 n
      · exact ok129 n) (fun _ => mixed) (by kernel_rfl) (by kernel_rfl) (by decide) (fun x => ⟨0, w85 n x⟩)
-- tranship/transhipref04.Size
def o87_0 (s87 : Tm → Option Int) (n : Nat) (k1 : Tm → Int → Int → Option Int) (a0 : Tm) : Option Int :=
  k1 a0 (1 : Int) (0 : Int)
def o87_1 (s87 : Tm → Option Int) (n : Nat) (k1 : Tm → Int → Int → Option Int) (t1 : Tm) (t3 : Int) (t4 : Int) : Option Int :=
  if (decide (t4 < (t1.kids.length : Int))) then
    atI t1.kids t4 fun x1 =>
    (s87 x1).bind fun x2 =>
    ckI (t3 + x2) <|
    ckI (t4 + (1 : Int)) <|
    k1 t1 (t3 + x2) (t4 + (1 : Int))
  else
    some t3
def l87_1 (s87 : Tm → Option Int) (n : Nat) : Nat → Tm → Int → Int → Option Int
  | 0, _, _, _ => none
  | m + 1, t1, t3, t4 => o87_1 s87 n (l87_1 s87 n m) t1 t3 t4
def f87 : Nat → Tm → Option Int
  | 0, _ => none
  | n + 1, a0 => o87_0 (f87 n) n (l87_1 (f87 n) n n) a0
def an87 : An := (.n none [] 0 .z (.n none [] 0 .z (.n none [] 0 (.n none [] 0 .z (.n none [] 0 (.n (some 1) [(1, .ps 0 .tm false), (3, .one .c), (4, .one .c)] 1 .z .z) .z)) .z)))
def F87 : Fn := { f := 87, a := an87, vars := [.tmp 2], ps := [.st .tm], rs := [.sc .int], own := false, fr := true, nt := 21, D := 3, loops := [1] }
def cs87 (s87 : Tm → Option Int) (n : Nat) : List Cal := [⟨87, [.st .tm], [.sc .int], true, fun a => s87 a.1⟩]
def st87_1 (t1 : Tm) (t3 : Int) (t4 : Int) : SS := ⟨[(1, .v (.one (.ptr 0 0))), (3, .v (.one (.c (.int t3) true))), (4, .v (.one (.c (.int t4) true)))], [(0, some (.bst .tm t1 false))], 1⟩
theorem p87_0 (s87 : Tm → Option Int) (n : Nat) (lab : Nat → SS → Option (RT.den F87.rs)) (x : PTs.den F87.ps) : F87.body (bodyOf Try.f87) tabR tyR true (cs87 s87 n) lab x = o87_0 s87 n (fun t1 t3 t4 => lab 1 (st87_1 t1 t3 t4)) x.1 := by kernel_rfl
theorem p87_1 (s87 : Tm → Option Int) (n : Nat) (lab : Nat → SS → Option (RT.den F87.rs)) (t1 : Tm) (t3 : Int) (t4 : Int) : F87.at (bodyOf Try.f87) tabR tyR true (cs87 s87 n) lab 1 (st87_1 t1 t3 t4) = o87_1 s87 n (fun t1 t3 t4 => lab 1 (st87_1 t1 t3 t4)) t1 t3 t4 := by kernel_rfl
theorem m87_1 (s87 : Tm → Option Int) (n : Nat) : ∀ m : Nat, (∀ t1 t3 t4, F87.labM (bodyOf Try.f87) tabR tyR true (cs87 s87 n) m 1 (st87_1 t1 t3 t4) = l87_1 s87 n m t1 t3 t4) := by
  intro m
  induction m with
  | zero => exact fun _ _ _ => rfl
  | succ m ih =>
    intro t1 t3 t4
    have e1 : ∀ t1 t3 t4, F87.labX (bodyOf Try.f87) tabR tyR true (cs87 s87 n) (F87.labM (bodyOf Try.f87) tabR tyR true (cs87 s87 n) m) 2 1 (st87_1 t1 t3 t4) = (l87_1 s87 n m) t1 t3 t4 := fun t1 t3 t4 => (Fn.labX_loop _ _ _ _ _ _ _ _ _ _ (by kernel_rfl)).trans (ih t1 t3 t4)
    rw [Fn.labM_succ]
    show F87.labD (bodyOf Try.f87) tabR tyR true (cs87 s87 n) (F87.labM (bodyOf Try.f87) tabR tyR true (cs87 s87 n) m) (2 + 1) 1 _ = _
    rw [Fn.labD_succ, p87_1]
    simp only [e1]
    rfl
theorem w87 (s87 : Tm → Option Int) (n : Nat) (x : PTs.den F87.ps) : F87.body (bodyOf Try.f87) tabR tyR true (cs87 s87 n) (F87.labX (bodyOf Try.f87) tabR tyR true (cs87 s87 n) (F87.labM (bodyOf Try.f87) tabR tyR true (cs87 s87 n) n) F87.D) x = o87_0 s87 n (l87_1 s87 n n) x.1 := by
  have e1 : ∀ t1 t3 t4, F87.labX (bodyOf Try.f87) tabR tyR true (cs87 s87 n) (F87.labM (bodyOf Try.f87) tabR tyR true (cs87 s87 n) n) 3 1 (st87_1 t1 t3 t4) = (l87_1 s87 n n) t1 t3 t4 := fun t1 t3 t4 => (Fn.labX_loop _ _ _ _ _ _ _ _ _ _ (by kernel_rfl)).trans ((m87_1 s87 n n) t1 t3 t4)
  show F87.body (bodyOf Try.f87) tabR tyR true (cs87 s87 n) (F87.labX (bodyOf Try.f87) tabR tyR true (cs87 s87 n) (F87.labM (bodyOf Try.f87) tabR tyR true (cs87 s87 n) n) 3) x = _
  rw [p87_0]
  simp only [e1]
  try rfl
theorem call87 : Callable Try.prog 87 := callable_of Try.func87 (by kernel_rfl) (by kernel_rfl)
theorem okr87 : ∀ n : Nat, Cal.Ok Try.prog ⟨87, F87.ps, F87.rs, F87.fr, fun a => f87 n a.1⟩
  | 0 => ⟨by kernel_rfl, fun a r h => by cases h⟩
  | n + 1 => cal_of_fn F87 (code := bodyOf Try.f87) Try.func87 (by kernel_rfl) (by kernel_rfl) call87 htabR (cs := cs87 (f87 n) n) (fun c hc => by
      simp only [cs87, List.mem_cons, List.not_mem_nil, or_false] at hc
      rcases hc with rfl
      · exact (okr87 n)) (fun _ => mixed) (by kernel_rfl) (by kernel_rfl) (by decide) (fun x => ⟨n, w87 (f87 n) n x⟩)
theorem ok87 (n : Nat) : Cal.Ok Try.prog ⟨87, F87.ps, F87.rs, F87.fr, fun a => f87 n a.1⟩ := (okr87 n)
-- tranship/transhipref04.Deep
def o88_0 (s88 : Tm → Option Int) (n : Nat) (k1 : Tm → Int → Int → Option Int) (a0 : Tm) : Option Int :=
  k1 a0 (0 : Int) (0 : Int)
def o88_1 (s88 : Tm → Option Int) (n : Nat) (k1 : Tm → Int → Int → Option Int) (t1 : Tm) (t3 : Int) (t4 : Int) : Option Int :=
  if (decide (t4 < (t1.kids.length : Int))) then
    atI t1.kids t4 fun x1 =>
    (s88 x1).bind fun x2 =>
    ckI (t4 + (1 : Int)) <|
    k1 t1 (max t3 x2) (t4 + (1 : Int))
  else
    ckI (t3 + (1 : Int)) <|
    some (t3 + (1 : Int))
def l88_1 (s88 : Tm → Option Int) (n : Nat) : Nat → Tm → Int → Int → Option Int
  | 0, _, _, _ => none
  | m + 1, t1, t3, t4 => o88_1 s88 n (l88_1 s88 n m) t1 t3 t4
def f88 : Nat → Tm → Option Int
  | 0, _ => none
  | n + 1, a0 => o88_0 (f88 n) n (l88_1 (f88 n) n n) a0
def an88 : An := (.n none [] 0 .z (.n none [] 0 .z (.n none [] 0 (.n none [] 0 .z (.n none [] 0 (.n (some 1) [(1, .ps 0 .tm false), (3, .one .c), (4, .one .c)] 1 .z .z) .z)) .z)))
def F88 : Fn := { f := 88, a := an88, vars := [.tmp 2], ps := [.st .tm], rs := [.sc .int], own := false, fr := true, nt := 22, D := 3, loops := [1] }
def cs88 (s88 : Tm → Option Int) (n : Nat) : List Cal := [⟨88, [.st .tm], [.sc .int], true, fun a => s88 a.1⟩]
def st88_1 (t1 : Tm) (t3 : Int) (t4 : Int) : SS := ⟨[(1, .v (.one (.ptr 0 0))), (3, .v (.one (.c (.int t3) true))), (4, .v (.one (.c (.int t4) true)))], [(0, some (.bst .tm t1 false))], 1⟩
theorem p88_0 (s88 : Tm → Option Int) (n : Nat) (lab : Nat → SS → Option (RT.den F88.rs)) (x : PTs.den F88.ps) : F88.body (bodyOf Try.f88) tabR tyR true (cs88 s88 n) lab x = o88_0 s88 n (fun t1 t3 t4 => lab 1 (st88_1 t1 t3 t4)) x.1 := by kernel_rfl
theorem p88_1 (s88 : Tm → Option Int) (n : Nat) (lab : Nat → SS → Option (RT.den F88.rs)) (t1 : Tm) (t3 : Int) (t4 : Int) : F88.at (bodyOf Try.f88) tabR tyR true (cs88 s88 n) lab 1 (st88_1 t1 t3 t4) = o88_1 s88 n (fun t1 t3 t4 => lab 1 (st88_1 t1 t3 t4)) t1 t3 t4 := by kernel_rfl
theorem m88_1 (s88 : Tm → Option Int) (n : Nat) : ∀ m : Nat, (∀ t1 t3 t4, F88.labM (bodyOf Try.f88) tabR tyR true (cs88 s88 n) m 1 (st88_1 t1 t3 t4) = l88_1 s88 n m t1 t3 t4) := by
  intro m
  induction m with
  | zero => exact fun _ _ _ => rfl
  | succ m ih =>
    intro t1 t3 t4
    have e1 : ∀ t1 t3 t4, F88.labX (bodyOf Try.f88) tabR tyR true (cs88 s88 n) (F88.labM (bodyOf Try.f88) tabR tyR true (cs88 s88 n) m) 2 1 (st88_1 t1 t3 t4) = (l88_1 s88 n m) t1 t3 t4 := fun t1 t3 t4 => (Fn.labX_loop _ _ _ _ _ _ _ _ _ _ (by kernel_rfl)).trans (ih t1 t3 t4)
    rw [Fn.labM_succ]
    show F88.labD (bodyOf Try.f88) tabR tyR true (cs88 s88 n) (F88.labM (bodyOf Try.f88) tabR tyR true (cs88 s88 n) m) (2 + 1) 1 _ = _
    rw [Fn.labD_succ, p88_1]
    simp only [e1]
    rfl
theorem w88 (s88 : Tm → Option Int) (n : Nat) (x : PTs.den F88.ps) : F88.body (bodyOf Try.f88) tabR tyR true (cs88 s88 n) (F88.labX (bodyOf Try.f88) tabR tyR true (cs88 s88 n) (F88.labM (bodyOf Try.f88) tabR tyR true (cs88 s88 n) n) F88.D) x = o88_0 s88 n (l88_1 s88 n n) x.1 := by
  have e1 : ∀ t1 t3 t4, F88.labX (bodyOf Try.f88) tabR tyR true (cs88 s88 n) (F88.labM (bodyOf Try.f88) tabR tyR true (cs88 s88 n) n) 3 1 (st88_1 t1 t3 t4) = (l88_1 s88 n n) t1 t3 t4 := fun t1 t3 t4 => (Fn.labX_loop _ _ _ _ _ _ _ _ _ _ (by kernel_rfl)).trans ((m88_1 s88 n n) t1 t3 t4)
  show F88.body (bodyOf Try.f88) tabR tyR true (cs88 s88 n) (F88.labX (bodyOf Try.f88) tabR tyR true (cs88 s88 n) (F88.labM (bodyOf Try.f88) tabR tyR true (cs88 s88 n) n) 3) x = _
  rw [p88_0]
  simp only [e1]
  try rfl
theorem call88 : Callable Try.prog 88 := callable_of Try.func88 (by kernel_rfl) (by kernel_rfl)
theorem okr88 : ∀ n : Nat, Cal.Ok Try.prog ⟨88, F88.ps, F88.rs, F88.fr, fun a => f88 n a.1⟩
  | 0 => ⟨by kernel_rfl, fun a r h => by cases h⟩
  | n + 1 => cal_of_fn F88 (code := bodyOf Try.f88) Try.func88 (by kernel_rfl) (by kernel_rfl) call88 htabR (cs := cs88 (f88 n) n) (fun c hc => by
      simp only [cs88, List.mem_cons, List.not_mem_nil, or_false] at hc
      rcases hc with rfl
      · exact (okr88 n)) (fun _ => mixed) (by kernel_rfl) (by kernel_rfl) (by decide) (fun x => ⟨n, w88 (f88 n) n x⟩)
theorem ok88 (n : Nat) : Cal.Ok Try.prog ⟨88, F88.ps, F88.rs, F88.fr, fun a => f88 n a.1⟩ := (okr88 n)
-- tranship/term.Same
def o90_0 (n : Nat) (a0 : Tm) (a1 : Tm) : Option Bool :=
  (f122 n a0 a1).bind fun x1 =>
  some x1
def f90 (n : Nat) (a0 : Tm) (a1 : Tm) : Option Bool := o90_0 n a0 a1
def an90 : An := .z
def F90 : Fn := { f := 90, a := an90, vars := [.tmp 4], ps := [.st .tm, .st .tm], rs := [.sc .bool], own := false, fr := true, nt := 8, D := 2, loops := [] }
def cs90 (n : Nat) : List Cal := [⟨122, [.st .tm, .st .tm], [.sc .bool], true, fun a => f122 n a.1 a.2.1⟩]
theorem p90_0 (n : Nat) (lab : Nat → SS → Option (RT.den F90.rs)) (x : PTs.den F90.ps) : F90.body (bodyOf Try.f90) tabR tyR true (cs90 n) lab x = o90_0 n x.1 x.2.1 := by kernel_rfl
theorem w90 (n : Nat) (x : PTs.den F90.ps) : F90.body (bodyOf Try.f90) tabR tyR true (cs90 n) (F90.labX (bodyOf Try.f90) tabR tyR true (cs90 n) (F90.labM (bodyOf Try.f90) tabR tyR true (cs90 n) 0) F90.D) x = o90_0 n x.1 x.2.1 := by
  show F90.body (bodyOf Try.f90) tabR tyR true (cs90 n) (F90.labX (bodyOf Try.f90) tabR tyR true (cs90 n) (F90.labM (bodyOf Try.f90) tabR tyR true (cs90 n) 0) 2) x = _
  rw [p90_0]
theorem call90 : Callable Try.prog 90 := callable_of Try.func90 (by kernel_rfl) (by kernel_rfl)
theorem ok90 (n : Nat) : Cal.Ok Try.prog ⟨90, F90.ps, F90.rs, F90.fr, fun a => f90 n a.1 a.2.1⟩ :=
  cal_of_fn F90 (code := bodyOf Try.f90) Try.func90 (by kernel_rfl) (by kernel_rfl) call90 htabR (cs := cs90 n) (fun c hc => by
      simp only [cs90, List.mem_cons, List.not_mem_nil, or_false] at hc
      rcases hc with rfl
      · exact ok122 n) (fun _ => mixed) (by kernel_rfl) (by kernel_rfl) (by decide) (fun x => ⟨0, w90 n x⟩)
-- tranship/bare.Lift
def o132_0 (s132 : Tm → Int → Int → Option (Tm × Bool)) (n : Nat) (k2 : Int → Int → Tm → Int → Int → Int → Int → Bool → Option (Tm × Bool)) (a0 : Tm) (a1 : Int) (a2 : Int) : Option (Tm × Bool) :=
  if (decide (a0.kind = (2 : Int))) then
    k2 a1 a2 a0 (0 : Int) (0 : Int) (0 : Int) (0 : Int) (decide (a2 ≤ a0.i))
  else
    k2 a1 a2 a0 (0 : Int) (0 : Int) (0 : Int) (0 : Int) false
def o132_1 (s132 : Tm → Int → Int → Option (Tm × Bool)) (n : Nat) (k3 : Int → Int → Tm → Int → Int → Int → Int → (List Tm) → (List Tm) → Int → Int → Option (Tm × Bool)) (t1 : Int) (t2 : Int) (t3 : Tm) (t6_0 : Int) (t6_1 : Int) (t6_2 : Int) (t6_3 : Int) : Option (Tm × Bool) :=
  if (decide ((t3.kids.length : Int) = (0 : Int))) then
    some ((Tm.mk t3.kind t3.i t3.j t3.n ([] : List Tm)), true)
  else
    ckB (decide (0 ≤ (t3.kids.length : Int)) && (decide ((t3.kids.length : Int) ≤ (t3.kids.length : Int)) && decide ((56 : Nat) * (t3.kids.length : Int) ≤ 281474976710656))) <|
    k3 t1 t2 t3 t6_0 t6_1 t6_2 t6_3 (List.replicate (t3.kids.length : Int).toNat (Tm.mk (0 : Int) (0 : Int) (0 : Int) (0 : Int) ([] : List Tm))) t3.kids (t3.kids.length : Int) (0 : Int)
def o132_2 (s132 : Tm → Int → Int → Option (Tm × Bool)) (n : Nat) (k1 : Int → Int → Tm → Int → Int → Int → Int → Option (Tm × Bool)) (t1 : Int) (t2 : Int) (t3 : Tm) (t6_0 : Int) (t6_1 : Int) (t6_2 : Int) (t6_3 : Int) (t21 : Bool) : Option (Tm × Bool) :=
  if t21 then
    ckI ((2147483647 : Int) - t3.i) <|
    if (decide (((2147483647 : Int) - t3.i) < t1)) then
      some ((Tm.mk (0 : Int) (0 : Int) (0 : Int) (0 : Int) ([] : List Tm)), false)
    else
      ckI (t3.i + t1) <|
      k1 t1 t2 (Tm.mk t3.kind (t3.i + t1) t3.j t3.n t3.kids) t6_0 t6_1 t6_2 t6_3
  else
    k1 t1 t2 t3 t6_0 t6_1 t6_2 t6_3
def o132_3 (s132 : Tm → Int → Int → Option (Tm × Bool)) (n : Nat) (k3 : Int → Int → Tm → Int → Int → Int → Int → (List Tm) → (List Tm) → Int → Int → Option (Tm × Bool)) (t1 : Int) (t2 : Int) (t3 : Tm) (t6_0 : Int) (t6_1 : Int) (t6_2 : Int) (t6_3 : Int) (t8 : List Tm) (t44 : List Tm) (t45 : Int) (t46 : Int) : Option (Tm × Bool) :=
  if (decide (t46 < t45)) then
    atI t44 t46 fun x1 =>
    (f113 t3.kind t46).bind fun x2 =>
    ckI (t2 + x2) <|
    (s132 x1 t1 (t2 + x2)).bind fun x3 =>
    if (!x3.2) then
      some ((Tm.mk (0 : Int) (0 : Int) (0 : Int) (0 : Int) ([] : List Tm)), false)
    else
      ckB (decide (0 ≤ t46) && decide (t46 < t8.length)) <|
      ckB (decide (t46.toNat < t8.length)) <|
      ckI (t46 + (1 : Int)) <|
      k3 t1 t2 t3 t6_0 t6_1 t6_2 t6_3 (t8.set t46.toNat (Tm.mk x3.1.kind x3.1.i x3.1.j x3.1.n x3.1.kids)) t44 t45 (t46 + (1 : Int))
  else
    some ((Tm.mk t3.kind t3.i t3.j t3.n t8), true)
def c132_1 (s132 : Tm → Int → Int → Option (Tm × Bool)) (n : Nat) (k3 : Int → Int → Tm → Int → Int → Int → Int → (List Tm) → (List Tm) → Int → Int → Option (Tm × Bool)) (t1 : Int) (t2 : Int) (t3 : Tm) (t6_0 : Int) (t6_1 : Int) (t6_2 : Int) (t6_3 : Int) : Option (Tm × Bool) :=
  o132_1 s132 n k3 t1 t2 t3 t6_0 t6_1 t6_2 t6_3
def c132_2 (s132 : Tm → Int → Int → Option (Tm × Bool)) (n : Nat) (k3 : Int → Int → Tm → Int → Int → Int → Int → (List Tm) → (List Tm) → Int → Int → Option (Tm × Bool)) (t1 : Int) (t2 : Int) (t3 : Tm) (t6_0 : Int) (t6_1 : Int) (t6_2 : Int) (t6_3 : Int) (t21 : Bool) : Option (Tm × Bool) :=
  o132_2 s132 n (c132_1 s132 n k3) t1 t2 t3 t6_0 t6_1 t6_2 t6_3 t21
def l132_3 (s132 : Tm → Int → Int → Option (Tm × Bool)) (n : Nat) : Nat → Int → Int → Tm → Int → Int → Int → Int → (List Tm) → (List Tm) → Int → Int → Option (Tm × Bool)
  | 0, _, _, _, _, _, _, _, _, _, _, _ => none
  | m + 1, t1, t2, t3, t6_0, t6_1, t6_2, t6_3, t8, t44, t45, t46 => o132_3 s132 n (l132_3 s132 n m) t1 t2 t3 t6_0 t6_1 t6_2 t6_3 t8 t44 t45 t46
def f132 : Nat → Tm → Int → Int → Option (Tm × Bool)
  | 0, _, _, _ => none
  | n + 1, a0, a1, a2 => o132_0 (f132 n) n (c132_2 (f132 n) n (l132_3 (f132 n) n n)) a0 a1 a2
def an132 : An := (.n none [] 0 .z (.n (some 1) [(1, .one .c), (2, .one .c), (3, .ps 0 .tm false), (6, .p 1 [.c, .c, .c, .c, .k])] 2 (.n (some 2) [(1, .one .c), (2, .one .c), (3, .ps 0 .tm false), (6, .p 1 [.c, .c, .c, .c, .k]), (21, .one .c)] 2 .z .z) (.n none [] 0 .z (.n none [] 0 .z (.n none [] 0 (.n none [] 0 .z (.n none [] 0 (.n (some 3) [(1, .one .c), (2, .one .c), (3, .ps 0 .tm false), (6, .p 1 [.c, .c, .c, .c, .k]), (8, .one (.r 2 45 .tm true)), (44, .one (.d .tm false)), (45, .one .c), (46, .one .c)] 3 .z .z) .z)) .z)))))
def F132 : Fn := { f := 132, a := an132, vars := [.cell 6 45, .tmp 7], ps := [.st .tm, .sc .int, .sc .int], rs := [.st .tm, .sc .bool], own := false, fr := true, nt := 74, D := 5, loops := [3] }
def cs132 (s132 : Tm → Int → Int → Option (Tm × Bool)) (n : Nat) : List Cal := [⟨113, [.sc .int, .sc .int], [.sc .int], true, fun a => f113 a.1 a.2.1⟩, ⟨132, [.st .tm, .sc .int, .sc .int], [.st .tm, .sc .bool], true, fun a => s132 a.1 a.2.1 a.2.2.1⟩]
def st132_1 (t1 : Int) (t2 : Int) (t3 : Tm) (t6_0 : Int) (t6_1 : Int) (t6_2 : Int) (t6_3 : Int) : SS := ⟨[(1, .v (.one (.c (.int t1) true))), (2, .v (.one (.c (.int t2) true))), (3, .v (.one (.ptr 0 0))), (6, .v (.one (.ptr 1 0)))], [(0, some (.bst .tm t3 false)), (1, some (.box [.c (.int t6_0) true, .c (.int t6_1) true, .c (.int t6_2) true, .c (.int t6_3) true, .nils]))], 2⟩
def st132_2 (t1 : Int) (t2 : Int) (t3 : Tm) (t6_0 : Int) (t6_1 : Int) (t6_2 : Int) (t6_3 : Int) (t21 : Bool) : SS := ⟨[(1, .v (.one (.c (.int t1) true))), (2, .v (.one (.c (.int t2) true))), (3, .v (.one (.ptr 0 0))), (6, .v (.one (.ptr 1 0))), (21, .v (.one (.c (.bool t21) true)))], [(0, some (.bst .tm t3 false)), (1, some (.box [.c (.int t6_0) true, .c (.int t6_1) true, .c (.int t6_2) true, .c (.int t6_3) true, .nils]))], 2⟩
def st132_3 (t1 : Int) (t2 : Int) (t3 : Tm) (t6_0 : Int) (t6_1 : Int) (t6_2 : Int) (t6_3 : Int) (t8 : List Tm) (t44 : List Tm) (t45 : Int) (t46 : Int) : SS := ⟨[(1, .v (.one (.c (.int t1) true))), (2, .v (.one (.c (.int t2) true))), (3, .v (.one (.ptr 0 0))), (6, .v (.one (.ptr 1 0))), (8, .v (.one (.arr 2))), (44, .v (.one (.c (.sl .tm t44) false))), (45, .v (.one (.c (.int t45) true))), (46, .v (.one (.c (.int t46) true)))], [(0, some (.bst .tm t3 false)), (1, some (.box [.c (.int t6_0) true, .c (.int t6_1) true, .c (.int t6_2) true, .c (.int t6_3) true, .nils])), (2, some (.row 45 .tm t8 true))], 3⟩
theorem p132_0 (s132 : Tm → Int → Int → Option (Tm × Bool)) (n : Nat) (lab : Nat → SS → Option (RT.den F132.rs)) (x : PTs.den F132.ps) : F132.body (bodyOf Try.f132) tabR tyR true (cs132 s132 n) lab x = o132_0 s132 n (fun t1 t2 t3 t6_0 t6_1 t6_2 t6_3 t21 => lab 2 (st132_2 t1 t2 t3 t6_0 t6_1 t6_2 t6_3 t21)) x.1 x.2.1 x.2.2.1 := by kernel_rfl
theorem p132_1 (s132 : Tm → Int → Int → Option (Tm × Bool)) (n : Nat) (lab : Nat → SS → Option (RT.den F132.rs)) (t1 : Int) (t2 : Int) (t3 : Tm) (t6_0 : Int) (t6_1 : Int) (t6_2 : Int) (t6_3 : Int) : F132.at (bodyOf Try.f132) tabR tyR true (cs132 s132 n) lab 1 (st132_1 t1 t2 t3 t6_0 t6_1 t6_2 t6_3) = o132_1 s132 n (fun t1 t2 t3 t6_0 t6_1 t6_2 t6_3 t8 t44 t45 t46 => lab 3 (st132_3 t1 t2 t3 t6_0 t6_1 t6_2 t6_3 t8 t44 t45 t46)) t1 t2 t3 t6_0 t6_1 t6_2 t6_3 := by kernel_rfl
theorem p132_2 (s132 : Tm → Int → Int → Option (Tm × Bool)) (n : Nat) (lab : Nat → SS → Option (RT.den F132.rs)) (t1 : Int) (t2 : Int) (t3 : Tm) (t6_0 : Int) (t6_1 : Int) (t6_2 : Int) (t6_3 : Int) (t21 : Bool) : F132.at (bodyOf Try.f132) tabR tyR true (cs132 s132 n) lab 2 (st132_2 t1 t2 t3 t6_0 t6_1 t6_2 t6_3 t21) = o132_2 s132 n (fun t1 t2 t3 t6_0 t6_1 t6_2 t6_3 => lab 1 (st132_1 t1 t2 t3 t6_0 t6_1 t6_2 t6_3)) t1 t2 t3 t6_0 t6_1 t6_2 t6_3 t21 := by kernel_rfl
theorem p132_3 (s132 : Tm → Int → Int → Option (Tm × Bool)) (n : Nat) (lab : Nat → SS → Option (RT.den F132.rs)) (t1 : Int) (t2 : Int) (t3 : Tm) (t6_0 : Int) (t6_1 : Int) (t6_2 : Int) (t6_3 : Int) (t8 : List Tm) (t44 : List Tm) (t45 : Int) (t46 : Int) : F132.at (bodyOf Try.f132) tabR tyR true (cs132 s132 n) lab 3 (st132_3 t1 t2 t3 t6_0 t6_1 t6_2 t6_3 t8 t44 t45 t46) = o132_3 s132 n (fun t1 t2 t3 t6_0 t6_1 t6_2 t6_3 t8 t44 t45 t46 => lab 3 (st132_3 t1 t2 t3 t6_0 t6_1 t6_2 t6_3 t8 t44 t45 t46)) t1 t2 t3 t6_0 t6_1 t6_2 t6_3 t8 t44 t45 t46 := by kernel_rfl
theorem n132_1 (s132 : Tm → Int → Int → Option (Tm × Bool)) (n : Nat) (rec : Nat → SS → Option (RT.den F132.rs)) (k3 : Int → Int → Tm → Int → Int → Int → Int → (List Tm) → (List Tm) → Int → Int → Option (Tm × Bool)) (h3 : ∀ t1 t2 t3 t6_0 t6_1 t6_2 t6_3 t8 t44 t45 t46, rec 3 (st132_3 t1 t2 t3 t6_0 t6_1 t6_2 t6_3 t8 t44 t45 t46) = k3 t1 t2 t3 t6_0 t6_1 t6_2 t6_3 t8 t44 t45 t46) (d : Nat) (t1 : Int) (t2 : Int) (t3 : Tm) (t6_0 : Int) (t6_1 : Int) (t6_2 : Int) (t6_3 : Int) : F132.labD (bodyOf Try.f132) tabR tyR true (cs132 s132 n) rec (d + 1) 1 (st132_1 t1 t2 t3 t6_0 t6_1 t6_2 t6_3) = c132_1 s132 n k3 t1 t2 t3 t6_0 t6_1 t6_2 t6_3 := by
  have e3 : ∀ t1 t2 t3 t6_0 t6_1 t6_2 t6_3 t8 t44 t45 t46, F132.labX (bodyOf Try.f132) tabR tyR true (cs132 s132 n) rec d 3 (st132_3 t1 t2 t3 t6_0 t6_1 t6_2 t6_3 t8 t44 t45 t46) = k3 t1 t2 t3 t6_0 t6_1 t6_2 t6_3 t8 t44 t45 t46 := fun t1 t2 t3 t6_0 t6_1 t6_2 t6_3 t8 t44 t45 t46 => (Fn.labX_loop _ _ _ _ _ _ _ _ _ _ (by kernel_rfl)).trans (h3 t1 t2 t3 t6_0 t6_1 t6_2 t6_3 t8 t44 t45 t46)
  show F132.labD (bodyOf Try.f132) tabR tyR true (cs132 s132 n) rec (d + 1) 1 _ = _
  rw [Fn.labD_succ, p132_1]
  simp only [e3]
  rfl
theorem n132_2 (s132 : Tm → Int → Int → Option (Tm × Bool)) (n : Nat) (rec : Nat → SS → Option (RT.den F132.rs)) (k3 : Int → Int → Tm → Int → Int → Int → Int → (List Tm) → (List Tm) → Int → Int → Option (Tm × Bool)) (h3 : ∀ t1 t2 t3 t6_0 t6_1 t6_2 t6_3 t8 t44 t45 t46, rec 3 (st132_3 t1 t2 t3 t6_0 t6_1 t6_2 t6_3 t8 t44 t45 t46) = k3 t1 t2 t3 t6_0 t6_1 t6_2 t6_3 t8 t44 t45 t46) (d : Nat) (t1 : Int) (t2 : Int) (t3 : Tm) (t6_0 : Int) (t6_1 : Int) (t6_2 : Int) (t6_3 : Int) (t21 : Bool) : F132.labD (bodyOf Try.f132) tabR tyR true (cs132 s132 n) rec (d + 2) 2 (st132_2 t1 t2 t3 t6_0 t6_1 t6_2 t6_3 t21) = c132_2 s132 n k3 t1 t2 t3 t6_0 t6_1 t6_2 t6_3 t21 := by
  have e1 : ∀ t1 t2 t3 t6_0 t6_1 t6_2 t6_3, F132.labX (bodyOf Try.f132) tabR tyR true (cs132 s132 n) rec (d + 1) 1 (st132_1 t1 t2 t3 t6_0 t6_1 t6_2 t6_3) = c132_1 s132 n k3 t1 t2 t3 t6_0 t6_1 t6_2 t6_3 := fun t1 t2 t3 t6_0 t6_1 t6_2 t6_3 => (Fn.labX_step _ _ _ _ _ _ _ _ _ _ (by kernel_rfl)).trans (n132_1 s132 n rec k3 h3 d t1 t2 t3 t6_0 t6_1 t6_2 t6_3)
  show F132.labD (bodyOf Try.f132) tabR tyR true (cs132 s132 n) rec ((d + 1) + 1) 2 _ = _
  rw [Fn.labD_succ, p132_2]
  simp only [e1]
  rfl
theorem m132_3 (s132 : Tm → Int → Int → Option (Tm × Bool)) (n : Nat) : ∀ m : Nat, (∀ t1 t2 t3 t6_0 t6_1 t6_2 t6_3 t8 t44 t45 t46, F132.labM (bodyOf Try.f132) tabR tyR true (cs132 s132 n) m 3 (st132_3 t1 t2 t3 t6_0 t6_1 t6_2 t6_3 t8 t44 t45 t46) = l132_3 s132 n m t1 t2 t3 t6_0 t6_1 t6_2 t6_3 t8 t44 t45 t46) := by
  intro m
  induction m with
  | zero => exact fun _ _ _ _ _ _ _ _ _ _ _ => rfl
  | succ m ih =>
    intro t1 t2 t3 t6_0 t6_1 t6_2 t6_3 t8 t44 t45 t46
    have e3 : ∀ t1 t2 t3 t6_0 t6_1 t6_2 t6_3 t8 t44 t45 t46, F132.labX (bodyOf Try.f132) tabR tyR true (cs132 s132 n) (F132.labM (bodyOf Try.f132) tabR tyR true (cs132 s132 n) m) 4 3 (st132_3 t1 t2 t3 t6_0 t6_1 t6_2 t6_3 t8 t44 t45 t46) = (l132_3 s132 n m) t1 t2 t3 t6_0 t6_1 t6_2 t6_3 t8 t44 t45 t46 := fun t1 t2 t3 t6_0 t6_1 t6_2 t6_3 t8 t44 t45 t46 => (Fn.labX_loop _ _ _ _ _ _ _ _ _ _ (by kernel_rfl)).trans (ih t1 t2 t3 t6_0 t6_1 t6_2 t6_3 t8 t44 t45 t46)
    rw [Fn.labM_succ]
    show F132.labD (bodyOf Try.f132) tabR tyR true (cs132 s132 n) (F132.labM (bodyOf Try.f132) tabR tyR true (cs132 s132 n) m) (4 + 1) 3 _ = _
    rw [Fn.labD_succ, p132_3]
    simp only [e3]
    rfl
theorem w132 (s132 : Tm → Int → Int → Option (Tm × Bool)) (n : Nat) (x : PTs.den F132.ps) : F132.body (bodyOf Try.f132) tabR tyR true (cs132 s132 n) (F132.labX (bodyOf Try.f132) tabR tyR true (cs132 s132 n) (F132.labM (bodyOf Try.f132) tabR tyR true (cs132 s132 n) n) F132.D) x = o132_0 s132 n (c132_2 s132 n (l132_3 s132 n n)) x.1 x.2.1 x.2.2.1 := by
  have e2 : ∀ t1 t2 t3 t6_0 t6_1 t6_2 t6_3 t21, F132.labX (bodyOf Try.f132) tabR tyR true (cs132 s132 n) (F132.labM (bodyOf Try.f132) tabR tyR true (cs132 s132 n) n) 5 2 (st132_2 t1 t2 t3 t6_0 t6_1 t6_2 t6_3 t21) = c132_2 s132 n (l132_3 s132 n n) t1 t2 t3 t6_0 t6_1 t6_2 t6_3 t21 := fun t1 t2 t3 t6_0 t6_1 t6_2 t6_3 t21 => (Fn.labX_step _ _ _ _ _ _ _ _ _ _ (by kernel_rfl)).trans (n132_2 s132 n (F132.labM (bodyOf Try.f132) tabR tyR true (cs132 s132 n) n) (l132_3 s132 n n) (m132_3 s132 n n) 3 t1 t2 t3 t6_0 t6_1 t6_2 t6_3 t21)
  show F132.body (bodyOf Try.f132) tabR tyR true (cs132 s132 n) (F132.labX (bodyOf Try.f132) tabR tyR true (cs132 s132 n) (F132.labM (bodyOf Try.f132) tabR tyR true (cs132 s132 n) n) 5) x = _
  rw [p132_0]
  simp only [e2]
  try rfl
theorem call132 : Callable Try.prog 132 := callable_of Try.func132 (by kernel_rfl) (by kernel_rfl)
theorem okr132 : ∀ n : Nat, Cal.Ok Try.prog ⟨132, F132.ps, F132.rs, F132.fr, fun a => f132 n a.1 a.2.1 a.2.2.1⟩
  | 0 => ⟨by kernel_rfl, fun a r h => by cases h⟩
  | n + 1 => cal_of_fn F132 (code := bodyOf Try.f132) Try.func132 (by kernel_rfl) (by kernel_rfl) call132 htabR (cs := cs132 (f132 n) n) (fun c hc => by
      simp only [cs132, List.mem_cons, List.not_mem_nil, or_false] at hc
      rcases hc with rfl | rfl
      · exact ok113
      · exact (okr132 n)) (fun _ => mixed) (by kernel_rfl) (by kernel_rfl) (by decide) (fun x => ⟨n, w132 (f132 n) n x⟩)
theorem ok132 (n : Nat) : Cal.Ok Try.prog ⟨132, F132.ps, F132.rs, F132.fr, fun a => f132 n a.1 a.2.1 a.2.2.1⟩ := (okr132 n)
-- tranship/bare.Var
def o152_0 (a0 : Int) : Option Tm :=
  some (Tm.mk (2 : Int) a0 (0 : Int) (0 : Int) ([] : List Tm))
def f152 (a0 : Int) : Option Tm := o152_0 a0
def an152 : An := .z
def F152 : Fn := { f := 152, a := an152, vars := [.cell 2 45], ps := [.sc .int], rs := [.st .tm], own := false, fr := true, nt := 5, D := 2, loops := [] }
def cs152 : List Cal := []
theorem p152_0 (lab : Nat → SS → Option (RT.den F152.rs)) (x : PTs.den F152.ps) : F152.body (bodyOf Try.f152) tabR tyR true cs152 lab x = o152_0 x.1 := by kernel_rfl
theorem w152 (x : PTs.den F152.ps) : F152.body (bodyOf Try.f152) tabR tyR true cs152 (F152.labX (bodyOf Try.f152) tabR tyR true cs152 (F152.labM (bodyOf Try.f152) tabR tyR true cs152 0) F152.D) x = o152_0 x.1 := by
  show F152.body (bodyOf Try.f152) tabR tyR true cs152 (F152.labX (bodyOf Try.f152) tabR tyR true cs152 (F152.labM (bodyOf Try.f152) tabR tyR true cs152 0) 2) x = _
  rw [p152_0]
theorem call152 : Callable Try.prog 152 := callable_of Try.func152 (by kernel_rfl) (by kernel_rfl)
theorem ok152 : Cal.Ok Try.prog ⟨152, F152.ps, F152.rs, F152.fr, fun a => f152 a.1⟩ :=
  cal_of_fn F152 (code := bodyOf Try.f152) Try.func152 (by kernel_rfl) (by kernel_rfl) call152 htabR (cs := cs152) (fun c hc => by simp only [cs152, List.not_mem_nil] at hc) (fun _ => mixed) (by kernel_rfl) (by kernel_rfl) (by decide) (fun x => ⟨0, w152 x⟩)
-- tranship/transhipkeep.Greats
def o100_0 (n : Nat) (k1 : (List Tm) → Int → Int → Int → Option Bool) (a0 : List Tm) (a1 : Int) : Option Bool :=
  if (decide (a1 < (a0.length : Int))) then
    some true
  else
    k1 a0 a1 (0 : Int) (0 : Int)
def o100_1 (n : Nat) (k2 : (List Tm) → Int → Int → Int → Option Bool) (t0 : List Tm) (t1 : Int) (t5 : Int) (t6 : Int) : Option Bool :=
  if (decide (t6 < (t0.length : Int))) then
    if (decide (t5 ≤ t1)) then
      k2 t0 t1 t5 t6
    else
      some (decide (t1 < t5))
  else
    some (decide (t1 < t5))
def o100_2 (n : Nat) (k1 : (List Tm) → Int → Int → Int → Option Bool) (t0 : List Tm) (t1 : Int) (t5 : Int) (t6 : Int) : Option Bool :=
  atI t0 t6 fun x1 =>
  ckI (t1 - t5) <|
  (f114 n x1 (t1 - t5) (200 : Int)).bind fun x2 =>
  ckI (t5 + x2) <|
  ckI (t6 + (1 : Int)) <|
  k1 t0 t1 (t5 + x2) (t6 + (1 : Int))
def c100_2 (n : Nat) (k1 : (List Tm) → Int → Int → Int → Option Bool) (t0 : List Tm) (t1 : Int) (t5 : Int) (t6 : Int) : Option Bool :=
  o100_2 n k1 t0 t1 t5 t6
def l100_1 (n : Nat) : Nat → (List Tm) → Int → Int → Int → Option Bool
  | 0, _, _, _, _ => none
  | m + 1, t0, t1, t5, t6 => o100_1 n (c100_2 n (l100_1 n m)) t0 t1 t5 t6
def f100 (n : Nat) (a0 : List Tm) (a1 : Int) : Option Bool := o100_0 n (l100_1 n n) a0 a1
def an100 : An := (.n none [] 0 .z (.n none [] 0 .z (.n none [] 0 .z (.n none [] 0 (.n none [] 0 .z (.n none [] 0 (.n (some 1) [(0, .one (.d .tm false)), (1, .one .c), (5, .one .c), (6, .one .c)] 0 (.n (some 2) [(0, .one (.d .tm false)), (1, .one .c), (5, .one .c), (6, .one .c)] 0 .z .z) .z) .z)) .z))))
def F100 : Fn := { f := 100, a := an100, vars := [.tmp 4], ps := [.sl .tm, .sc .int], rs := [.sc .bool], own := false, fr := true, nt := 35, D := 4, loops := [1] }
def cs100 (n : Nat) : List Cal := [⟨114, [.st .tm, .sc .int, .sc .int], [.sc .int], true, fun a => f114 n a.1 a.2.1 a.2.2.1⟩]
def st100_1 (t0 : List Tm) (t1 : Int) (t5 : Int) (t6 : Int) : SS := ⟨[(0, .v (.one (.c (.sl .tm t0) false))), (1, .v (.one (.c (.int t1) true))), (5, .v (.one (.c (.int t5) true))), (6, .v (.one (.c (.int t6) true)))], [], 0⟩
def st100_2 (t0 : List Tm) (t1 : Int) (t5 : Int) (t6 : Int) : SS := ⟨[(0, .v (.one (.c (.sl .tm t0) false))), (1, .v (.one (.c (.int t1) true))), (5, .v (.one (.c (.int t5) true))), (6, .v (.one (.c (.int t6) true)))], [], 0⟩
theorem p100_0 (n : Nat) (lab : Nat → SS → Option (RT.den F100.rs)) (x : PTs.den F100.ps) : F100.body (bodyOf Try.f100) tabR tyR true (cs100 n) lab x = o100_0 n (fun t0 t1 t5 t6 => lab 1 (st100_1 t0 t1 t5 t6)) x.1 x.2.1 := by kernel_rfl
theorem p100_1 (n : Nat) (lab : Nat → SS → Option (RT.den F100.rs)) (t0 : List Tm) (t1 : Int) (t5 : Int) (t6 : Int) : F100.at (bodyOf Try.f100) tabR tyR true (cs100 n) lab 1 (st100_1 t0 t1 t5 t6) = o100_1 n (fun t0 t1 t5 t6 => lab 2 (st100_2 t0 t1 t5 t6)) t0 t1 t5 t6 := by kernel_rfl
theorem p100_2 (n : Nat) (lab : Nat → SS → Option (RT.den F100.rs)) (t0 : List Tm) (t1 : Int) (t5 : Int) (t6 : Int) : F100.at (bodyOf Try.f100) tabR tyR true (cs100 n) lab 2 (st100_2 t0 t1 t5 t6) = o100_2 n (fun t0 t1 t5 t6 => lab 1 (st100_1 t0 t1 t5 t6)) t0 t1 t5 t6 := by kernel_rfl
theorem n100_2 (n : Nat) (rec : Nat → SS → Option (RT.den F100.rs)) (k1 : (List Tm) → Int → Int → Int → Option Bool) (h1 : ∀ t0 t1 t5 t6, rec 1 (st100_1 t0 t1 t5 t6) = k1 t0 t1 t5 t6) (d : Nat) (t0 : List Tm) (t1 : Int) (t5 : Int) (t6 : Int) : F100.labD (bodyOf Try.f100) tabR tyR true (cs100 n) rec (d + 1) 2 (st100_2 t0 t1 t5 t6) = c100_2 n k1 t0 t1 t5 t6 := by
  have e1 : ∀ t0 t1 t5 t6, F100.labX (bodyOf Try.f100) tabR tyR true (cs100 n) rec d 1 (st100_1 t0 t1 t5 t6) = k1 t0 t1 t5 t6 := fun t0 t1 t5 t6 => (Fn.labX_loop _ _ _ _ _ _ _ _ _ _ (by kernel_rfl)).trans (h1 t0 t1 t5 t6)
  show F100.labD (bodyOf Try.f100) tabR tyR true (cs100 n) rec (d + 1) 2 _ = _
  rw [Fn.labD_succ, p100_2]
  simp only [e1]
  rfl
theorem m100_1 (n : Nat) : ∀ m : Nat, (∀ t0 t1 t5 t6, F100.labM (bodyOf Try.f100) tabR tyR true (cs100 n) m 1 (st100_1 t0 t1 t5 t6) = l100_1 n m t0 t1 t5 t6) := by
  intro m
  induction m with
  | zero => exact fun _ _ _ _ => rfl
  | succ m ih =>
    intro t0 t1 t5 t6
    have e2 : ∀ t0 t1 t5 t6, F100.labX (bodyOf Try.f100) tabR tyR true (cs100 n) (F100.labM (bodyOf Try.f100) tabR tyR true (cs100 n) m) 3 2 (st100_2 t0 t1 t5 t6) = c100_2 n (l100_1 n m) t0 t1 t5 t6 := fun t0 t1 t5 t6 => (Fn.labX_step _ _ _ _ _ _ _ _ _ _ (by kernel_rfl)).trans (n100_2 n (F100.labM (bodyOf Try.f100) tabR tyR true (cs100 n) m) (l100_1 n m) ih 2 t0 t1 t5 t6)
    rw [Fn.labM_succ]
    show F100.labD (bodyOf Try.f100) tabR tyR true (cs100 n) (F100.labM (bodyOf Try.f100) tabR tyR true (cs100 n) m) (3 + 1) 1 _ = _
    rw [Fn.labD_succ, p100_1]
    simp only [e2]
    rfl
theorem w100 (n : Nat) (x : PTs.den F100.ps) : F100.body (bodyOf Try.f100) tabR tyR true (cs100 n) (F100.labX (bodyOf Try.f100) tabR tyR true (cs100 n) (F100.labM (bodyOf Try.f100) tabR tyR true (cs100 n) n) F100.D) x = o100_0 n (l100_1 n n) x.1 x.2.1 := by
  have e1 : ∀ t0 t1 t5 t6, F100.labX (bodyOf Try.f100) tabR tyR true (cs100 n) (F100.labM (bodyOf Try.f100) tabR tyR true (cs100 n) n) 4 1 (st100_1 t0 t1 t5 t6) = (l100_1 n n) t0 t1 t5 t6 := fun t0 t1 t5 t6 => (Fn.labX_loop _ _ _ _ _ _ _ _ _ _ (by kernel_rfl)).trans ((m100_1 n n) t0 t1 t5 t6)
  show F100.body (bodyOf Try.f100) tabR tyR true (cs100 n) (F100.labX (bodyOf Try.f100) tabR tyR true (cs100 n) (F100.labM (bodyOf Try.f100) tabR tyR true (cs100 n) n) 4) x = _
  rw [p100_0]
  simp only [e1]
  try rfl
theorem call100 : Callable Try.prog 100 := callable_of Try.func100 (by kernel_rfl) (by kernel_rfl)
theorem ok100 (n : Nat) : Cal.Ok Try.prog ⟨100, F100.ps, F100.rs, F100.fr, fun a => f100 n a.1 a.2.1⟩ :=
  cal_of_fn F100 (code := bodyOf Try.f100) Try.func100 (by kernel_rfl) (by kernel_rfl) call100 htabR (cs := cs100 n) (fun c hc => by
      simp only [cs100, List.mem_cons, List.not_mem_nil, or_false] at hc
      rcases hc with rfl
      · exact ok114 n) (fun _ => mixed) (by kernel_rfl) (by kernel_rfl) (by decide) (fun x => ⟨n, w100 n x⟩)
end Go.Proofs.Yteaglcbnkephgaa
