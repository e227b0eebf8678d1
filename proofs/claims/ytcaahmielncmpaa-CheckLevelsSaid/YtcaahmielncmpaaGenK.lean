/-
  What the functions on terms and their copies compute, as plain functions.
-/
import Derived.Test.YtcaahmielncmpaaTypedB
set_option linter.unusedSimpArgs false
set_option linter.unusedVariables false
namespace Go.Proofs.Ytcaahmielncmpaa
open Go Go.RowKit
set_option maxRecDepth 100000
-- tranship/transhipkeep.weigh
-- tranship/transhipkeep.Great
-- tranship/transhipref04.Kids
-- tranship/transhipref04.level
-- tranship/transhipref04.numbers
-- tranship/transhipref04.node
-- tranship/transhipref04.Plain
-- tranship/transhipref04.Marked
-- tranship/transhipkeep.Twin, tranship/transhipkeep.Twins
-- tranship/term.sort
def o149_0 (k1 : Int → Bool → Option Int) (a0 : Int) : Option Int :=
  ifB (decide (a0 = (1 : Int))) (
    k1 a0 true) (
    k1 a0 (decide (a0 = (2 : Int))))
def o149_1 (t0 : Int) (t3 : Bool) : Option Int :=
  ifB t3 (
    some (0 : Int)) (
    ifB (decide (t0 ≤ (12 : Int))) (
      some (1 : Int)) (
      some (2 : Int)))
def c149_1 (t0 : Int) (t3 : Bool) : Option Int :=
  o149_1 t0 t3
def f149 (a0 : Int) : Option Int := o149_0 (c149_1) a0
def an149 : An := (.n none [] 0 .z (.n none [] 0 (.n none [] 0 (.n (some 1) [(0, .one .c), (3, .one .c)] 0 .z .z) .z) .z))
def F149 : Fn := { f := 149, a := an149, vars := [.tmp 2], ps := [.sc .int], rs := [.sc .int], own := false, fr := true, nt := 13, D := 3, loops := [] }
def cs149 : List Cal := []
def st149_1 (t0 : Int) (t3 : Bool) : SS := ⟨[(0, .v (.one (.c (.int t0) true))), (3, .v (.one (.c (.bool t3) true)))], [], 0⟩
theorem p149_0 (lab : Nat → SS → Option (RT.den F149.rs)) (x : PTs.den F149.ps) : F149.body (bodyOf Try.f149) tabR tyR true cs149 lab x = o149_0 (fun t0 t3 => lab 1 (st149_1 t0 t3)) x.1 := by kernel_rfl
theorem p149_1 (lab : Nat → SS → Option (RT.den F149.rs)) (t0 : Int) (t3 : Bool) : F149.at (bodyOf Try.f149) tabR tyR true cs149 lab 1 (st149_1 t0 t3) = o149_1 t0 t3 := by kernel_rfl
theorem n149_1 (rec : Nat → SS → Option (RT.den F149.rs)) (d : Nat) (t0 : Int) (t3 : Bool) : F149.labD (bodyOf Try.f149) tabR tyR true cs149 rec (d + 1) 1 (st149_1 t0 t3) = c149_1 t0 t3 := by
  show F149.labD (bodyOf Try.f149) tabR tyR true cs149 rec (d + 1) 1 _ = _
  rw [Fn.labD_succ, p149_1]
  rfl
theorem w149 (x : PTs.den F149.ps) : F149.body (bodyOf Try.f149) tabR tyR true cs149 (F149.labX (bodyOf Try.f149) tabR tyR true cs149 (F149.labM (bodyOf Try.f149) tabR tyR true cs149 0) F149.D) x = o149_0 (c149_1) x.1 := by
  have e1 : ∀ t0 t3, F149.labX (bodyOf Try.f149) tabR tyR true cs149 (F149.labM (bodyOf Try.f149) tabR tyR true cs149 0) 3 1 (st149_1 t0 t3) = c149_1 t0 t3 := fun t0 t3 => (Fn.labX_step _ _ _ _ _ _ _ _ _ _ (by kernel_rfl)).trans (n149_1 (F149.labM (bodyOf Try.f149) tabR tyR true cs149 0) 2 t0 t3)
  show F149.body (bodyOf Try.f149) tabR tyR true cs149 (F149.labX (bodyOf Try.f149) tabR tyR true cs149 (F149.labM (bodyOf Try.f149) tabR tyR true cs149 0) 3) x = _
  rw [p149_0]
  simp only [e1]
  try rfl
theorem call149 : Callable Try.prog 149 := callable_of Try.func149 (by kernel_rfl) (by kernel_rfl)
theorem ok149 : Cal.Ok Try.prog ⟨149, F149.ps, F149.rs, F149.fr, fun a => f149 a.1⟩ :=
  cal_of_fn F149 (code := bodyOf Try.f149) Try.func149 (by kernel_rfl) (by kernel_rfl) call149 htabR (cs := cs149) (fun c hc => by simp only [cs149, List.not_mem_nil] at hc) (fun _ => mixed) (by kernel_rfl) (by kernel_rfl) (by decide) (fun x => ⟨0, w149 x⟩)
-- tranship/term.takes
def o165_0 (k1 : Int → Bool → Option Int) (a0 : Int) : Option Int :=
  ifB (decide (a0 = (3 : Int))) (
    k1 a0 (decide (a0 = (3 : Int)))) (
    ifB (decide (a0 = (5 : Int))) (
      k1 a0 (decide (a0 = (5 : Int)))) (
      ifB (decide (a0 = (6 : Int))) (
        k1 a0 (decide (a0 = (6 : Int)))) (
        ifB (decide (a0 = (8 : Int))) (
          k1 a0 (decide (a0 = (8 : Int)))) (
          ifB (decide (a0 = (10 : Int))) (
            k1 a0 (decide (a0 = (10 : Int)))) (
            k1 a0 (decide (a0 = (11 : Int))))))))
def o165_1 (k2 : Int → Bool → Option Int) (t3 : Int) (t4 : Bool) : Option Int :=
  ifB t4 (
    some (4 : Int)) (
    ifB (decide (t3 = (1 : Int))) (
      k2 t3 (decide (t3 = (1 : Int)))) (
      ifB (decide (t3 = (2 : Int))) (
        k2 t3 (decide (t3 = (2 : Int)))) (
        ifB (decide (t3 = (7 : Int))) (
          k2 t3 (decide (t3 = (7 : Int)))) (
          k2 t3 (decide (t3 = (9 : Int)))))))
def o165_2 (k3 : Int → Bool → Option Int) (t3 : Int) (t11 : Bool) : Option Int :=
  ifB t11 (
    some (5 : Int)) (
    ifB (decide (t3 = (4 : Int))) (
      k3 t3 (decide (t3 = (4 : Int)))) (
      ifB (decide (t3 = (12 : Int))) (
        k3 t3 (decide (t3 = (12 : Int)))) (
        ifB (decide (t3 = (13 : Int))) (
          k3 t3 (decide (t3 = (13 : Int)))) (
          ifB (decide (t3 = (14 : Int))) (
            k3 t3 (decide (t3 = (14 : Int)))) (
            k3 t3 (decide (t3 = (21 : Int))))))))
def o165_3 (k4 : Int → Bool → Option Int) (t3 : Int) (t16 : Bool) : Option Int :=
  ifB t16 (
    some (6 : Int)) (
    ifB (decide (t3 = (15 : Int))) (
      k4 t3 (decide (t3 = (15 : Int)))) (
      ifB (decide (t3 = (18 : Int))) (
        k4 t3 (decide (t3 = (18 : Int)))) (
        ifB (decide (t3 = (19 : Int))) (
          k4 t3 (decide (t3 = (19 : Int)))) (
          k4 t3 (decide (t3 = (20 : Int)))))))
def o165_4 (t3 : Int) (t22 : Bool) : Option Int :=
  ifB t22 (
    some (9 : Int)) (
    ifB (decide (t3 = (16 : Int))) (
      ifB (decide (t3 = (16 : Int))) (
        some (12 : Int)) (
        some (-1 : Int))) (
      ifB (decide (t3 = (17 : Int))) (
        some (12 : Int)) (
        some (-1 : Int))))
def c165_4 (t3 : Int) (t22 : Bool) : Option Int :=
  o165_4 t3 t22
def c165_3 (t3 : Int) (t16 : Bool) : Option Int :=
  o165_3 (c165_4) t3 t16
def c165_2 (t3 : Int) (t11 : Bool) : Option Int :=
  o165_2 (c165_3) t3 t11
def c165_1 (t3 : Int) (t4 : Bool) : Option Int :=
  o165_1 (c165_2) t3 t4
def f165 (a0 : Int) : Option Int := o165_0 (c165_1) a0
def an165 : An := (.n none [] 0 .z (.n none [] 0 (.n none [] 0 .z (.n none [] 0 (.n (some 1) [(3, .one .c), (4, .one .c)] 0 .z (.n none [] 0 .z (.n (some 2) [(3, .one .c), (11, .one .c)] 0 .z (.n none [] 0 .z (.n (some 3) [(3, .one .c), (16, .one .c)] 0 .z (.n none [] 0 .z (.n (some 4) [(3, .one .c), (22, .one .c)] 0 .z .z))))))) .z)) .z))
def F165 : Fn := { f := 165, a := an165, vars := [.tmp 2], ps := [.sc .int], rs := [.sc .int], own := false, fr := true, nt := 30, D := 6, loops := [] }
def cs165 : List Cal := []
def st165_1 (t3 : Int) (t4 : Bool) : SS := ⟨[(3, .v (.one (.c (.int t3) true))), (4, .v (.one (.c (.bool t4) true)))], [], 0⟩
def st165_2 (t3 : Int) (t11 : Bool) : SS := ⟨[(3, .v (.one (.c (.int t3) true))), (11, .v (.one (.c (.bool t11) true)))], [], 0⟩
def st165_3 (t3 : Int) (t16 : Bool) : SS := ⟨[(3, .v (.one (.c (.int t3) true))), (16, .v (.one (.c (.bool t16) true)))], [], 0⟩
def st165_4 (t3 : Int) (t22 : Bool) : SS := ⟨[(3, .v (.one (.c (.int t3) true))), (22, .v (.one (.c (.bool t22) true)))], [], 0⟩
theorem p165_0 (lab : Nat → SS → Option (RT.den F165.rs)) (x : PTs.den F165.ps) : F165.body (bodyOf Try.f165) tabR tyR true cs165 lab x = o165_0 (fun t3 t4 => lab 1 (st165_1 t3 t4)) x.1 := by kernel_rfl
theorem p165_1 (lab : Nat → SS → Option (RT.den F165.rs)) (t3 : Int) (t4 : Bool) : F165.at (bodyOf Try.f165) tabR tyR true cs165 lab 1 (st165_1 t3 t4) = o165_1 (fun t3 t11 => lab 2 (st165_2 t3 t11)) t3 t4 := by kernel_rfl
theorem p165_2 (lab : Nat → SS → Option (RT.den F165.rs)) (t3 : Int) (t11 : Bool) : F165.at (bodyOf Try.f165) tabR tyR true cs165 lab 2 (st165_2 t3 t11) = o165_2 (fun t3 t16 => lab 3 (st165_3 t3 t16)) t3 t11 := by kernel_rfl
theorem p165_3 (lab : Nat → SS → Option (RT.den F165.rs)) (t3 : Int) (t16 : Bool) : F165.at (bodyOf Try.f165) tabR tyR true cs165 lab 3 (st165_3 t3 t16) = o165_3 (fun t3 t22 => lab 4 (st165_4 t3 t22)) t3 t16 := by kernel_rfl
theorem p165_4 (lab : Nat → SS → Option (RT.den F165.rs)) (t3 : Int) (t22 : Bool) : F165.at (bodyOf Try.f165) tabR tyR true cs165 lab 4 (st165_4 t3 t22) = o165_4 t3 t22 := by kernel_rfl
theorem n165_4 (rec : Nat → SS → Option (RT.den F165.rs)) (d : Nat) (t3 : Int) (t22 : Bool) : F165.labD (bodyOf Try.f165) tabR tyR true cs165 rec (d + 1) 4 (st165_4 t3 t22) = c165_4 t3 t22 := by
  show F165.labD (bodyOf Try.f165) tabR tyR true cs165 rec (d + 1) 4 _ = _
  rw [Fn.labD_succ, p165_4]
  rfl
theorem n165_3 (rec : Nat → SS → Option (RT.den F165.rs)) (d : Nat) (t3 : Int) (t16 : Bool) : F165.labD (bodyOf Try.f165) tabR tyR true cs165 rec (d + 2) 3 (st165_3 t3 t16) = c165_3 t3 t16 := by
  have e4 : ∀ t3 t22, F165.labX (bodyOf Try.f165) tabR tyR true cs165 rec (d + 1) 4 (st165_4 t3 t22) = c165_4 t3 t22 := fun t3 t22 => (Fn.labX_step _ _ _ _ _ _ _ _ _ _ (by kernel_rfl)).trans (n165_4 rec d t3 t22)
  show F165.labD (bodyOf Try.f165) tabR tyR true cs165 rec ((d + 1) + 1) 3 _ = _
  rw [Fn.labD_succ, p165_3]
  simp only [e4]
  rfl
theorem n165_2 (rec : Nat → SS → Option (RT.den F165.rs)) (d : Nat) (t3 : Int) (t11 : Bool) : F165.labD (bodyOf Try.f165) tabR tyR true cs165 rec (d + 3) 2 (st165_2 t3 t11) = c165_2 t3 t11 := by
  have e3 : ∀ t3 t16, F165.labX (bodyOf Try.f165) tabR tyR true cs165 rec (d + 2) 3 (st165_3 t3 t16) = c165_3 t3 t16 := fun t3 t16 => (Fn.labX_step _ _ _ _ _ _ _ _ _ _ (by kernel_rfl)).trans (n165_3 rec d t3 t16)
  show F165.labD (bodyOf Try.f165) tabR tyR true cs165 rec ((d + 2) + 1) 2 _ = _
  rw [Fn.labD_succ, p165_2]
  simp only [e3]
  rfl
theorem n165_1 (rec : Nat → SS → Option (RT.den F165.rs)) (d : Nat) (t3 : Int) (t4 : Bool) : F165.labD (bodyOf Try.f165) tabR tyR true cs165 rec (d + 4) 1 (st165_1 t3 t4) = c165_1 t3 t4 := by
  have e2 : ∀ t3 t11, F165.labX (bodyOf Try.f165) tabR tyR true cs165 rec (d + 3) 2 (st165_2 t3 t11) = c165_2 t3 t11 := fun t3 t11 => (Fn.labX_step _ _ _ _ _ _ _ _ _ _ (by kernel_rfl)).trans (n165_2 rec d t3 t11)
  show F165.labD (bodyOf Try.f165) tabR tyR true cs165 rec ((d + 3) + 1) 1 _ = _
  rw [Fn.labD_succ, p165_1]
  simp only [e2]
  rfl
theorem w165 (x : PTs.den F165.ps) : F165.body (bodyOf Try.f165) tabR tyR true cs165 (F165.labX (bodyOf Try.f165) tabR tyR true cs165 (F165.labM (bodyOf Try.f165) tabR tyR true cs165 0) F165.D) x = o165_0 (c165_1) x.1 := by
  have e1 : ∀ t3 t4, F165.labX (bodyOf Try.f165) tabR tyR true cs165 (F165.labM (bodyOf Try.f165) tabR tyR true cs165 0) 6 1 (st165_1 t3 t4) = c165_1 t3 t4 := fun t3 t4 => (Fn.labX_step _ _ _ _ _ _ _ _ _ _ (by kernel_rfl)).trans (n165_1 (F165.labM (bodyOf Try.f165) tabR tyR true cs165 0) 2 t3 t4)
  show F165.body (bodyOf Try.f165) tabR tyR true cs165 (F165.labX (bodyOf Try.f165) tabR tyR true cs165 (F165.labM (bodyOf Try.f165) tabR tyR true cs165 0) 6) x = _
  rw [p165_0]
  simp only [e1]
  try rfl
theorem call165 : Callable Try.prog 165 := callable_of Try.func165 (by kernel_rfl) (by kernel_rfl)
theorem ok165 : Cal.Ok Try.prog ⟨165, F165.ps, F165.rs, F165.fr, fun a => f165 a.1⟩ :=
  cal_of_fn F165 (code := bodyOf Try.f165) Try.func165 (by kernel_rfl) (by kernel_rfl) call165 htabR (cs := cs165) (fun c hc => by simp only [cs165, List.not_mem_nil] at hc) (fun _ => mixed) (by kernel_rfl) (by kernel_rfl) (by decide) (fun x => ⟨0, w165 x⟩)
-- tranship/term.Kids
def o150_0 (k1 : Int → Int → Bool → Option Int) (a0 : Int) (a1 : Int) : Option Int :=
  ifB (decide (a0 = (1 : Int))) (
    k1 a1 a0 (decide (a0 = (1 : Int)))) (
    k1 a1 a0 (decide (a0 = (2 : Int))))
def o150_1 (k2 : Int → Int → Bool → Option Int) (t1 : Int) (t5 : Int) (t6 : Bool) : Option Int :=
  ifB t6 (
    some (0 : Int)) (
    ifB (decide (t5 = (18 : Int))) (
      k2 t1 t5 (decide (t5 = (18 : Int)))) (
      k2 t1 t5 (decide (t5 = (19 : Int)))))
def o150_2 (k3 : Int → Int → Bool → Option Int) (t1 : Int) (t5 : Int) (t9 : Bool) : Option Int :=
  ifB t9 (
    some (1 : Int)) (
    ifB (decide (t5 = (3 : Int))) (
      k3 t1 t5 (decide (t5 = (3 : Int)))) (
      ifB (decide (t5 = (6 : Int))) (
        k3 t1 t5 (decide (t5 = (6 : Int)))) (
        ifB (decide (t5 = (13 : Int))) (
          k3 t1 t5 (decide (t5 = (13 : Int)))) (
          ifB (decide (t5 = (14 : Int))) (
            k3 t1 t5 (decide (t5 = (14 : Int)))) (
            ifB (decide (t5 = (15 : Int))) (
              k3 t1 t5 (decide (t5 = (15 : Int)))) (
              ifB (decide (t5 = (16 : Int))) (
                k3 t1 t5 (decide (t5 = (16 : Int)))) (
                ifB (decide (t5 = (21 : Int))) (
                  k3 t1 t5 (decide (t5 = (21 : Int)))) (
                  k3 t1 t5 (decide (t5 = (11 : Int)))))))))))
def o150_3 (k4 : Int → Int → Bool → Option Int) (t1 : Int) (t5 : Int) (t12 : Bool) : Option Int :=
  ifB t12 (
    some (2 : Int)) (
    ifB (decide (t5 = (4 : Int))) (
      k4 t1 t5 (decide (t5 = (4 : Int)))) (
      ifB (decide (t5 = (8 : Int))) (
        k4 t1 t5 (decide (t5 = (8 : Int)))) (
        ifB (decide (t5 = (9 : Int))) (
          k4 t1 t5 (decide (t5 = (9 : Int)))) (
          ifB (decide (t5 = (10 : Int))) (
            k4 t1 t5 (decide (t5 = (10 : Int)))) (
            k4 t1 t5 (decide (t5 = (20 : Int))))))))
def o150_4 (k5 : Int → Int → Bool → Option Int) (t1 : Int) (t5 : Int) (t21 : Bool) : Option Int :=
  ifB t21 (
    some (3 : Int)) (
    ifB (decide (t5 = (5 : Int))) (
      k5 t1 t5 (decide (t5 = (5 : Int)))) (
      ifB (decide (t5 = (7 : Int))) (
        k5 t1 t5 (decide (t5 = (7 : Int)))) (
        ifB (decide (t5 = (12 : Int))) (
          k5 t1 t5 (decide (t5 = (12 : Int)))) (
          k5 t1 t5 (decide (t5 = (17 : Int)))))))
def o150_5 (t1 : Int) (t5 : Int) (t27 : Bool) : Option Int :=
  ifB t27 (
    some (4 : Int)) (
    ifB (decide (t5 = (22 : Int))) (
      some (6 : Int)) (
      ifB (decide (t5 = (23 : Int))) (
        (f165 t1).bind fun x1 =>
        some x1) (
        some (-1 : Int))))
def c150_5 (t1 : Int) (t5 : Int) (t27 : Bool) : Option Int :=
  o150_5 t1 t5 t27
def c150_4 (t1 : Int) (t5 : Int) (t21 : Bool) : Option Int :=
  o150_4 (c150_5) t1 t5 t21
def c150_3 (t1 : Int) (t5 : Int) (t12 : Bool) : Option Int :=
  o150_3 (c150_4) t1 t5 t12
def c150_2 (t1 : Int) (t5 : Int) (t9 : Bool) : Option Int :=
  o150_2 (c150_3) t1 t5 t9
def c150_1 (t1 : Int) (t5 : Int) (t6 : Bool) : Option Int :=
  o150_1 (c150_2) t1 t5 t6
def f150 (a0 : Int) (a1 : Int) : Option Int := o150_0 (c150_1) a0 a1
def an150 : An := (.n none [] 0 .z (.n none [] 0 (.n none [] 0 .z (.n none [] 0 (.n (some 1) [(1, .one .c), (5, .one .c), (6, .one .c)] 0 .z (.n none [] 0 .z (.n (some 2) [(1, .one .c), (5, .one .c), (9, .one .c)] 0 .z (.n none [] 0 .z (.n (some 3) [(1, .one .c), (5, .one .c), (12, .one .c)] 0 .z (.n none [] 0 .z (.n (some 4) [(1, .one .c), (5, .one .c), (21, .one .c)] 0 .z (.n none [] 0 .z (.n (some 5) [(1, .one .c), (5, .one .c), (27, .one .c)] 0 .z .z))))))))) .z)) .z))
def F150 : Fn := { f := 150, a := an150, vars := [.tmp 4], ps := [.sc .int, .sc .int], rs := [.sc .int], own := false, fr := true, nt := 38, D := 7, loops := [] }
def cs150 : List Cal := [⟨165, [.sc .int], [.sc .int], true, fun a => f165 a.1⟩]
def st150_1 (t1 : Int) (t5 : Int) (t6 : Bool) : SS := ⟨[(1, .v (.one (.c (.int t1) true))), (5, .v (.one (.c (.int t5) true))), (6, .v (.one (.c (.bool t6) true)))], [], 0⟩
def st150_2 (t1 : Int) (t5 : Int) (t9 : Bool) : SS := ⟨[(1, .v (.one (.c (.int t1) true))), (5, .v (.one (.c (.int t5) true))), (9, .v (.one (.c (.bool t9) true)))], [], 0⟩
def st150_3 (t1 : Int) (t5 : Int) (t12 : Bool) : SS := ⟨[(1, .v (.one (.c (.int t1) true))), (5, .v (.one (.c (.int t5) true))), (12, .v (.one (.c (.bool t12) true)))], [], 0⟩
def st150_4 (t1 : Int) (t5 : Int) (t21 : Bool) : SS := ⟨[(1, .v (.one (.c (.int t1) true))), (5, .v (.one (.c (.int t5) true))), (21, .v (.one (.c (.bool t21) true)))], [], 0⟩
def st150_5 (t1 : Int) (t5 : Int) (t27 : Bool) : SS := ⟨[(1, .v (.one (.c (.int t1) true))), (5, .v (.one (.c (.int t5) true))), (27, .v (.one (.c (.bool t27) true)))], [], 0⟩
theorem p150_0 (lab : Nat → SS → Option (RT.den F150.rs)) (x : PTs.den F150.ps) : F150.body (bodyOf Try.f150) tabR tyR true cs150 lab x = o150_0 (fun t1 t5 t6 => lab 1 (st150_1 t1 t5 t6)) x.1 x.2.1 := by kernel_rfl
theorem p150_1 (lab : Nat → SS → Option (RT.den F150.rs)) (t1 : Int) (t5 : Int) (t6 : Bool) : F150.at (bodyOf Try.f150) tabR tyR true cs150 lab 1 (st150_1 t1 t5 t6) = o150_1 (fun t1 t5 t9 => lab 2 (st150_2 t1 t5 t9)) t1 t5 t6 := by kernel_rfl
theorem p150_2 (lab : Nat → SS → Option (RT.den F150.rs)) (t1 : Int) (t5 : Int) (t9 : Bool) : F150.at (bodyOf Try.f150) tabR tyR true cs150 lab 2 (st150_2 t1 t5 t9) = o150_2 (fun t1 t5 t12 => lab 3 (st150_3 t1 t5 t12)) t1 t5 t9 := by kernel_rfl
theorem p150_3 (lab : Nat → SS → Option (RT.den F150.rs)) (t1 : Int) (t5 : Int) (t12 : Bool) : F150.at (bodyOf Try.f150) tabR tyR true cs150 lab 3 (st150_3 t1 t5 t12) = o150_3 (fun t1 t5 t21 => lab 4 (st150_4 t1 t5 t21)) t1 t5 t12 := by kernel_rfl
theorem p150_4 (lab : Nat → SS → Option (RT.den F150.rs)) (t1 : Int) (t5 : Int) (t21 : Bool) : F150.at (bodyOf Try.f150) tabR tyR true cs150 lab 4 (st150_4 t1 t5 t21) = o150_4 (fun t1 t5 t27 => lab 5 (st150_5 t1 t5 t27)) t1 t5 t21 := by kernel_rfl
theorem p150_5 (lab : Nat → SS → Option (RT.den F150.rs)) (t1 : Int) (t5 : Int) (t27 : Bool) : F150.at (bodyOf Try.f150) tabR tyR true cs150 lab 5 (st150_5 t1 t5 t27) = o150_5 t1 t5 t27 := by kernel_rfl
theorem n150_5 (rec : Nat → SS → Option (RT.den F150.rs)) (d : Nat) (t1 : Int) (t5 : Int) (t27 : Bool) : F150.labD (bodyOf Try.f150) tabR tyR true cs150 rec (d + 1) 5 (st150_5 t1 t5 t27) = c150_5 t1 t5 t27 := by
  show F150.labD (bodyOf Try.f150) tabR tyR true cs150 rec (d + 1) 5 _ = _
  rw [Fn.labD_succ, p150_5]
  rfl
theorem n150_4 (rec : Nat → SS → Option (RT.den F150.rs)) (d : Nat) (t1 : Int) (t5 : Int) (t21 : Bool) : F150.labD (bodyOf Try.f150) tabR tyR true cs150 rec (d + 2) 4 (st150_4 t1 t5 t21) = c150_4 t1 t5 t21 := by
  have e5 : ∀ t1 t5 t27, F150.labX (bodyOf Try.f150) tabR tyR true cs150 rec (d + 1) 5 (st150_5 t1 t5 t27) = c150_5 t1 t5 t27 := fun t1 t5 t27 => (Fn.labX_step _ _ _ _ _ _ _ _ _ _ (by kernel_rfl)).trans (n150_5 rec d t1 t5 t27)
  show F150.labD (bodyOf Try.f150) tabR tyR true cs150 rec ((d + 1) + 1) 4 _ = _
  rw [Fn.labD_succ, p150_4]
  simp only [e5]
  rfl
theorem n150_3 (rec : Nat → SS → Option (RT.den F150.rs)) (d : Nat) (t1 : Int) (t5 : Int) (t12 : Bool) : F150.labD (bodyOf Try.f150) tabR tyR true cs150 rec (d + 3) 3 (st150_3 t1 t5 t12) = c150_3 t1 t5 t12 := by
  have e4 : ∀ t1 t5 t21, F150.labX (bodyOf Try.f150) tabR tyR true cs150 rec (d + 2) 4 (st150_4 t1 t5 t21) = c150_4 t1 t5 t21 := fun t1 t5 t21 => (Fn.labX_step _ _ _ _ _ _ _ _ _ _ (by kernel_rfl)).trans (n150_4 rec d t1 t5 t21)
  show F150.labD (bodyOf Try.f150) tabR tyR true cs150 rec ((d + 2) + 1) 3 _ = _
  rw [Fn.labD_succ, p150_3]
  simp only [e4]
  rfl
theorem n150_2 (rec : Nat → SS → Option (RT.den F150.rs)) (d : Nat) (t1 : Int) (t5 : Int) (t9 : Bool) : F150.labD (bodyOf Try.f150) tabR tyR true cs150 rec (d + 4) 2 (st150_2 t1 t5 t9) = c150_2 t1 t5 t9 := by
  have e3 : ∀ t1 t5 t12, F150.labX (bodyOf Try.f150) tabR tyR true cs150 rec (d + 3) 3 (st150_3 t1 t5 t12) = c150_3 t1 t5 t12 := fun t1 t5 t12 => (Fn.labX_step _ _ _ _ _ _ _ _ _ _ (by kernel_rfl)).trans (n150_3 rec d t1 t5 t12)
  show F150.labD (bodyOf Try.f150) tabR tyR true cs150 rec ((d + 3) + 1) 2 _ = _
  rw [Fn.labD_succ, p150_2]
  simp only [e3]
  rfl
theorem n150_1 (rec : Nat → SS → Option (RT.den F150.rs)) (d : Nat) (t1 : Int) (t5 : Int) (t6 : Bool) : F150.labD (bodyOf Try.f150) tabR tyR true cs150 rec (d + 5) 1 (st150_1 t1 t5 t6) = c150_1 t1 t5 t6 := by
  have e2 : ∀ t1 t5 t9, F150.labX (bodyOf Try.f150) tabR tyR true cs150 rec (d + 4) 2 (st150_2 t1 t5 t9) = c150_2 t1 t5 t9 := fun t1 t5 t9 => (Fn.labX_step _ _ _ _ _ _ _ _ _ _ (by kernel_rfl)).trans (n150_2 rec d t1 t5 t9)
  show F150.labD (bodyOf Try.f150) tabR tyR true cs150 rec ((d + 4) + 1) 1 _ = _
  rw [Fn.labD_succ, p150_1]
  simp only [e2]
  rfl
theorem w150 (x : PTs.den F150.ps) : F150.body (bodyOf Try.f150) tabR tyR true cs150 (F150.labX (bodyOf Try.f150) tabR tyR true cs150 (F150.labM (bodyOf Try.f150) tabR tyR true cs150 0) F150.D) x = o150_0 (c150_1) x.1 x.2.1 := by
  have e1 : ∀ t1 t5 t6, F150.labX (bodyOf Try.f150) tabR tyR true cs150 (F150.labM (bodyOf Try.f150) tabR tyR true cs150 0) 7 1 (st150_1 t1 t5 t6) = c150_1 t1 t5 t6 := fun t1 t5 t6 => (Fn.labX_step _ _ _ _ _ _ _ _ _ _ (by kernel_rfl)).trans (n150_1 (F150.labM (bodyOf Try.f150) tabR tyR true cs150 0) 2 t1 t5 t6)
  show F150.body (bodyOf Try.f150) tabR tyR true cs150 (F150.labX (bodyOf Try.f150) tabR tyR true cs150 (F150.labM (bodyOf Try.f150) tabR tyR true cs150 0) 7) x = _
  rw [p150_0]
  simp only [e1]
  try rfl
theorem call150 : Callable Try.prog 150 := callable_of Try.func150 (by kernel_rfl) (by kernel_rfl)
theorem ok150 : Cal.Ok Try.prog ⟨150, F150.ps, F150.rs, F150.fr, fun a => f150 a.1 a.2.1⟩ :=
  cal_of_fn F150 (code := bodyOf Try.f150) Try.func150 (by kernel_rfl) (by kernel_rfl) call150 htabR (cs := cs150) (fun c hc => by
      simp only [cs150, List.mem_cons, List.not_mem_nil, or_false] at hc
      rcases hc with rfl
      · exact ok165) (fun _ => mixed) (by kernel_rfl) (by kernel_rfl) (by decide) (fun x => ⟨0, w150 x⟩)
-- tranship/term.level
def o166_0 (a0 : Int) : Option Bool :=
  ifB (decide ((0 : Int) ≤ a0)) (
    some (decide (a0 ≤ (1000 : Int)))) (
    some false)
def f166 (a0 : Int) : Option Bool := o166_0 a0
def an166 : An := .z
def F166 : Fn := { f := 166, a := an166, vars := [.tmp 2], ps := [.sc .int], rs := [.sc .bool], own := false, fr := true, nt := 9, D := 2, loops := [] }
def cs166 : List Cal := []
theorem p166_0 (lab : Nat → SS → Option (RT.den F166.rs)) (x : PTs.den F166.ps) : F166.body (bodyOf Try.f166) tabR tyR true cs166 lab x = o166_0 x.1 := by kernel_rfl
theorem w166 (x : PTs.den F166.ps) : F166.body (bodyOf Try.f166) tabR tyR true cs166 (F166.labX (bodyOf Try.f166) tabR tyR true cs166 (F166.labM (bodyOf Try.f166) tabR tyR true cs166 0) F166.D) x = o166_0 x.1 := by
  show F166.body (bodyOf Try.f166) tabR tyR true cs166 (F166.labX (bodyOf Try.f166) tabR tyR true cs166 (F166.labM (bodyOf Try.f166) tabR tyR true cs166 0) 2) x = _
  rw [p166_0]
theorem call166 : Callable Try.prog 166 := callable_of Try.func166 (by kernel_rfl) (by kernel_rfl)
theorem ok166 : Cal.Ok Try.prog ⟨166, F166.ps, F166.rs, F166.fr, fun a => f166 a.1⟩ :=
  cal_of_fn F166 (code := bodyOf Try.f166) Try.func166 (by kernel_rfl) (by kernel_rfl) call166 htabR (cs := cs166) (fun c hc => by simp only [cs166, List.not_mem_nil] at hc) (fun _ => mixed) (by kernel_rfl) (by kernel_rfl) (by decide) (fun x => ⟨0, w166 x⟩)
-- tranship/term.numbers
def o151_0 (k1 : Tm → Int → Bool → Option Bool) (a0 : Tm) : Option Bool :=
  ifB (decide (a0.kind = (1 : Int))) (
    k1 a0 a0.kind (decide (a0.kind = (1 : Int)))) (
    ifB (decide (a0.kind = (10 : Int))) (
      k1 a0 a0.kind (decide (a0.kind = (10 : Int)))) (
      ifB (decide (a0.kind = (11 : Int))) (
        k1 a0 a0.kind (decide (a0.kind = (11 : Int)))) (
        k1 a0 a0.kind (decide (a0.kind = (12 : Int))))))
def o151_1 (k2 : Tm → Int → Bool → Option Bool) (t1 : Tm) (t4 : Int) (t5 : Bool) : Option Bool :=
  ifB t5 (
    (f166 t1.i).bind fun x1 =>
    ifB x1 (
      ifB (decide (t1.j = (0 : Int))) (
        some (decide (t1.n = (0 : Int)))) (
        some false)) (
      some false)) (
    ifB (decide (t4 = (2 : Int))) (
      ifB (decide ((0 : Int) ≤ t1.i)) (
        ifB (decide (t1.i ≤ (2147483647 : Int))) (
          ifB (decide (t1.j = (0 : Int))) (
            some (decide (t1.n = (0 : Int)))) (
            some false)) (
          some false)) (
        some false)) (
      ifB (decide (t4 = (3 : Int))) (
        k2 t1 t4 (decide (t4 = (3 : Int)))) (
        ifB (decide (t4 = (4 : Int))) (
          k2 t1 t4 (decide (t4 = (4 : Int)))) (
          ifB (decide (t4 = (5 : Int))) (
            k2 t1 t4 (decide (t4 = (5 : Int)))) (
            ifB (decide (t4 = (6 : Int))) (
              k2 t1 t4 (decide (t4 = (6 : Int)))) (
              ifB (decide (t4 = (7 : Int))) (
                k2 t1 t4 (decide (t4 = (7 : Int)))) (
                ifB (decide (t4 = (8 : Int))) (
                  k2 t1 t4 (decide (t4 = (8 : Int)))) (
                  k2 t1 t4 (decide (t4 = (9 : Int)))))))))))
def o151_2 (t1 : Tm) (t4 : Int) (t43 : Bool) : Option Bool :=
  ifB t43 (
    (f166 t1.i).bind fun x2 =>
    ifB x2 (
      (f166 t1.j).bind fun x3 =>
      ifB x3 (
        some (decide (t1.n = (0 : Int)))) (
        some false)) (
      some false)) (
    ifB (decide (t4 = (23 : Int))) (
      (f166 t1.i).bind fun x4 =>
      ifB x4 (
        (f166 t1.j).bind fun x5 =>
        some x5) (
        some false)) (
      ifB (decide (t1.i = (0 : Int))) (
        ifB (decide (t1.j = (0 : Int))) (
          some (decide (t1.n = (0 : Int)))) (
          some false)) (
        some false)))
def c151_2 (t1 : Tm) (t4 : Int) (t43 : Bool) : Option Bool :=
  o151_2 t1 t4 t43
def c151_1 (t1 : Tm) (t4 : Int) (t5 : Bool) : Option Bool :=
  o151_1 (c151_2) t1 t4 t5
def f151 (a0 : Tm) : Option Bool := o151_0 (c151_1) a0
def an151 : An := (.n none [] 0 .z (.n none [] 0 (.n none [] 0 .z (.n none [] 0 (.n (some 1) [(1, .ps 0 .tm false), (4, .one .c), (5, .one .c)] 1 .z (.n none [] 0 .z (.n none [] 0 .z (.n none [] 0 .z (.n (some 2) [(1, .ps 0 .tm false), (4, .one .c), (43, .one .c)] 1 .z .z))))) .z)) .z))
def F151 : Fn := { f := 151, a := an151, vars := [.tmp 2], ps := [.st .tm], rs := [.sc .bool], own := false, fr := true, nt := 87, D := 4, loops := [] }
def cs151 : List Cal := [⟨166, [.sc .int], [.sc .bool], true, fun a => f166 a.1⟩]
def st151_1 (t1 : Tm) (t4 : Int) (t5 : Bool) : SS := ⟨[(1, .v (.one (.ptr 0 0))), (4, .v (.one (.c (.int t4) true))), (5, .v (.one (.c (.bool t5) true)))], [(0, some (.bst .tm t1 false))], 1⟩
def st151_2 (t1 : Tm) (t4 : Int) (t43 : Bool) : SS := ⟨[(1, .v (.one (.ptr 0 0))), (4, .v (.one (.c (.int t4) true))), (43, .v (.one (.c (.bool t43) true)))], [(0, some (.bst .tm t1 false))], 1⟩
theorem p151_0 (lab : Nat → SS → Option (RT.den F151.rs)) (x : PTs.den F151.ps) : F151.body (bodyOf Try.f151) tabR tyR true cs151 lab x = o151_0 (fun t1 t4 t5 => lab 1 (st151_1 t1 t4 t5)) x.1 := by kernel_rfl
theorem p151_1 (lab : Nat → SS → Option (RT.den F151.rs)) (t1 : Tm) (t4 : Int) (t5 : Bool) : F151.at (bodyOf Try.f151) tabR tyR true cs151 lab 1 (st151_1 t1 t4 t5) = o151_1 (fun t1 t4 t43 => lab 2 (st151_2 t1 t4 t43)) t1 t4 t5 := by kernel_rfl
theorem p151_2 (lab : Nat → SS → Option (RT.den F151.rs)) (t1 : Tm) (t4 : Int) (t43 : Bool) : F151.at (bodyOf Try.f151) tabR tyR true cs151 lab 2 (st151_2 t1 t4 t43) = o151_2 t1 t4 t43 := by kernel_rfl
theorem n151_2 (rec : Nat → SS → Option (RT.den F151.rs)) (d : Nat) (t1 : Tm) (t4 : Int) (t43 : Bool) : F151.labD (bodyOf Try.f151) tabR tyR true cs151 rec (d + 1) 2 (st151_2 t1 t4 t43) = c151_2 t1 t4 t43 := by
  show F151.labD (bodyOf Try.f151) tabR tyR true cs151 rec (d + 1) 2 _ = _
  rw [Fn.labD_succ, p151_2]
  rfl
theorem n151_1 (rec : Nat → SS → Option (RT.den F151.rs)) (d : Nat) (t1 : Tm) (t4 : Int) (t5 : Bool) : F151.labD (bodyOf Try.f151) tabR tyR true cs151 rec (d + 2) 1 (st151_1 t1 t4 t5) = c151_1 t1 t4 t5 := by
  have e2 : ∀ t1 t4 t43, F151.labX (bodyOf Try.f151) tabR tyR true cs151 rec (d + 1) 2 (st151_2 t1 t4 t43) = c151_2 t1 t4 t43 := fun t1 t4 t43 => (Fn.labX_step _ _ _ _ _ _ _ _ _ _ (by kernel_rfl)).trans (n151_2 rec d t1 t4 t43)
  show F151.labD (bodyOf Try.f151) tabR tyR true cs151 rec ((d + 1) + 1) 1 _ = _
  rw [Fn.labD_succ, p151_1]
  simp only [e2]
  rfl
theorem w151 (x : PTs.den F151.ps) : F151.body (bodyOf Try.f151) tabR tyR true cs151 (F151.labX (bodyOf Try.f151) tabR tyR true cs151 (F151.labM (bodyOf Try.f151) tabR tyR true cs151 0) F151.D) x = o151_0 (c151_1) x.1 := by
  have e1 : ∀ t1 t4 t5, F151.labX (bodyOf Try.f151) tabR tyR true cs151 (F151.labM (bodyOf Try.f151) tabR tyR true cs151 0) 4 1 (st151_1 t1 t4 t5) = c151_1 t1 t4 t5 := fun t1 t4 t5 => (Fn.labX_step _ _ _ _ _ _ _ _ _ _ (by kernel_rfl)).trans (n151_1 (F151.labM (bodyOf Try.f151) tabR tyR true cs151 0) 2 t1 t4 t5)
  show F151.body (bodyOf Try.f151) tabR tyR true cs151 (F151.labX (bodyOf Try.f151) tabR tyR true cs151 (F151.labM (bodyOf Try.f151) tabR tyR true cs151 0) 4) x = _
  rw [p151_0]
  simp only [e1]
  try rfl
theorem call151 : Callable Try.prog 151 := callable_of Try.func151 (by kernel_rfl) (by kernel_rfl)
theorem ok151 : Cal.Ok Try.prog ⟨151, F151.ps, F151.rs, F151.fr, fun a => f151 a.1⟩ :=
  cal_of_fn F151 (code := bodyOf Try.f151) Try.func151 (by kernel_rfl) (by kernel_rfl) call151 htabR (cs := cs151) (fun c hc => by
      simp only [cs151, List.mem_cons, List.not_mem_nil, or_false] at hc
      rcases hc with rfl
      · exact ok166) (fun _ => mixed) (by kernel_rfl) (by kernel_rfl) (by decide) (fun x => ⟨0, w151 x⟩)
-- tranship/term.right
def o123_0 (s123 : Tm → Int → Option Bool) (n : Nat) (k1 : Tm → Int → Option Bool) (a0 : Tm) (a1 : Int) : Option Bool :=
  (f149 a0.kind).bind fun x1 =>
  ifB (!decide (a1 = (0 : Int))) (
    ifB (!decide (x1 = (0 : Int))) (
      ifB (!decide (x1 = a1)) (
        some false) (
        k1 a0 x1)) (
      k1 a0 x1)) (
    k1 a0 x1)
def o123_1 (s123 : Tm → Int → Option Bool) (n : Nat) (k2 : Tm → Int → Option Bool) (t2 : Tm) (t5 : Int) : Option Bool :=
  (f150 t2.kind t2.n).bind fun x2 =>
  ifB (!decide ((t2.kids.length : Int) = x2)) (
    some false) (
    (f151 t2).bind fun x3 =>
    ifB (!x3) (
      some false) (
      k2 t2 t5))
def o123_2 (s123 : Tm → Int → Option Bool) (n : Nat) (k3 : Tm → Int → (List Tm) → Int → Int → Option Bool) (t2 : Tm) (t5 : Int) : Option Bool :=
  k3 t2 t5 t2.kids (t2.kids.length : Int) (0 : Int)
def o123_3 (s123 : Tm → Int → Option Bool) (n : Nat) (k3 : Tm → Int → (List Tm) → Int → Int → Option Bool) (t2 : Tm) (t5 : Int) (t38 : List Tm) (t39 : Int) (t40 : Int) : Option Bool :=
  ifB (decide (t40 < t39)) (
    atI t38 t40 fun x4 =>
    ifB (decide (t2.kind = (12 : Int))) (
      ifB (decide (t40 = (2 : Int))) (
        (s123 x4 (2 : Int)).bind fun x5 =>
        ifB (!x5) (
          some false) (
          ckI (t40 + (1 : Int)) <|
          k3 t2 t5 t38 t39 (t40 + (1 : Int)))) (
        (s123 x4 t5).bind fun x6 =>
        ifB (!x6) (
          some false) (
          ckI (t40 + (1 : Int)) <|
          k3 t2 t5 t38 t39 (t40 + (1 : Int))))) (
      (s123 x4 t5).bind fun x7 =>
      ifB (!x7) (
        some false) (
        ckI (t40 + (1 : Int)) <|
        k3 t2 t5 t38 t39 (t40 + (1 : Int))))) (
    some true)
def c123_2 (s123 : Tm → Int → Option Bool) (n : Nat) (k3 : Tm → Int → (List Tm) → Int → Int → Option Bool) (t2 : Tm) (t5 : Int) : Option Bool :=
  o123_2 s123 n k3 t2 t5
def c123_1 (s123 : Tm → Int → Option Bool) (n : Nat) (k3 : Tm → Int → (List Tm) → Int → Int → Option Bool) (t2 : Tm) (t5 : Int) : Option Bool :=
  o123_1 s123 n (c123_2 s123 n k3) t2 t5
def l123_3 (s123 : Tm → Int → Option Bool) (n : Nat) : Nat → Tm → Int → (List Tm) → Int → Int → Option Bool
  | 0, _, _, _, _, _ => none
  | m + 1, t2, t5, t38, t39, t40 => o123_3 s123 n (l123_3 s123 n m) t2 t5 t38 t39 t40
def f123 : Nat → Tm → Int → Option Bool
  | 0, _, _ => none
  | n + 1, a0, a1 => o123_0 (f123 n) n (c123_1 (f123 n) n (l123_3 (f123 n) n n)) a0 a1
def an123 : An := (.n none [] 0 .z (.n none [] 0 .z (.n (some 1) [(2, .ps 0 .tm false), (5, .one .c)] 1 .z (.n (some 2) [(2, .ps 0 .tm false), (5, .one .c)] 1 .z (.n none [] 0 (.n none [] 0 .z (.n none [] 0 (.n (some 3) [(2, .ps 0 .tm false), (5, .one .c), (38, .one (.d .tm false)), (39, .one .c), (40, .one .c)] 1 .z .z) .z)) .z)))))
def F123 : Fn := { f := 123, a := an123, vars := [.tmp 4], ps := [.st .tm, .sc .int], rs := [.sc .bool], own := false, fr := true, nt := 58, D := 5, loops := [3] }
def cs123 (s123 : Tm → Int → Option Bool) (n : Nat) : List Cal := [⟨123, [.st .tm, .sc .int], [.sc .bool], true, fun a => s123 a.1 a.2.1⟩, ⟨149, [.sc .int], [.sc .int], true, fun a => f149 a.1⟩, ⟨150, [.sc .int, .sc .int], [.sc .int], true, fun a => f150 a.1 a.2.1⟩, ⟨151, [.st .tm], [.sc .bool], true, fun a => f151 a.1⟩]
def st123_1 (t2 : Tm) (t5 : Int) : SS := ⟨[(2, .v (.one (.ptr 0 0))), (5, .v (.one (.c (.int t5) true)))], [(0, some (.bst .tm t2 false))], 1⟩
def st123_2 (t2 : Tm) (t5 : Int) : SS := ⟨[(2, .v (.one (.ptr 0 0))), (5, .v (.one (.c (.int t5) true)))], [(0, some (.bst .tm t2 false))], 1⟩
def st123_3 (t2 : Tm) (t5 : Int) (t38 : List Tm) (t39 : Int) (t40 : Int) : SS := ⟨[(2, .v (.one (.ptr 0 0))), (5, .v (.one (.c (.int t5) true))), (38, .v (.one (.c (.sl .tm t38) false))), (39, .v (.one (.c (.int t39) true))), (40, .v (.one (.c (.int t40) true)))], [(0, some (.bst .tm t2 false))], 1⟩
theorem p123_0 (s123 : Tm → Int → Option Bool) (n : Nat) (lab : Nat → SS → Option (RT.den F123.rs)) (x : PTs.den F123.ps) : F123.body (bodyOf Try.f123) tabR tyR true (cs123 s123 n) lab x = o123_0 s123 n (fun t2 t5 => lab 1 (st123_1 t2 t5)) x.1 x.2.1 := by kernel_rfl
theorem p123_1 (s123 : Tm → Int → Option Bool) (n : Nat) (lab : Nat → SS → Option (RT.den F123.rs)) (t2 : Tm) (t5 : Int) : F123.at (bodyOf Try.f123) tabR tyR true (cs123 s123 n) lab 1 (st123_1 t2 t5) = o123_1 s123 n (fun t2 t5 => lab 2 (st123_2 t2 t5)) t2 t5 := by kernel_rfl
theorem p123_2 (s123 : Tm → Int → Option Bool) (n : Nat) (lab : Nat → SS → Option (RT.den F123.rs)) (t2 : Tm) (t5 : Int) : F123.at (bodyOf Try.f123) tabR tyR true (cs123 s123 n) lab 2 (st123_2 t2 t5) = o123_2 s123 n (fun t2 t5 t38 t39 t40 => lab 3 (st123_3 t2 t5 t38 t39 t40)) t2 t5 := by kernel_rfl
theorem p123_3 (s123 : Tm → Int → Option Bool) (n : Nat) (lab : Nat → SS → Option (RT.den F123.rs)) (t2 : Tm) (t5 : Int) (t38 : List Tm) (t39 : Int) (t40 : Int) : F123.at (bodyOf Try.f123) tabR tyR true (cs123 s123 n) lab 3 (st123_3 t2 t5 t38 t39 t40) = o123_3 s123 n (fun t2 t5 t38 t39 t40 => lab 3 (st123_3 t2 t5 t38 t39 t40)) t2 t5 t38 t39 t40 := by kernel_rfl
theorem n123_2 (s123 : Tm → Int → Option Bool) (n : Nat) (rec : Nat → SS → Option (RT.den F123.rs)) (k3 : Tm → Int → (List Tm) → Int → Int → Option Bool) (h3 : ∀ t2 t5 t38 t39 t40, rec 3 (st123_3 t2 t5 t38 t39 t40) = k3 t2 t5 t38 t39 t40) (d : Nat) (t2 : Tm) (t5 : Int) : F123.labD (bodyOf Try.f123) tabR tyR true (cs123 s123 n) rec (d + 1) 2 (st123_2 t2 t5) = c123_2 s123 n k3 t2 t5 := by
  have e3 : ∀ t2 t5 t38 t39 t40, F123.labX (bodyOf Try.f123) tabR tyR true (cs123 s123 n) rec d 3 (st123_3 t2 t5 t38 t39 t40) = k3 t2 t5 t38 t39 t40 := fun t2 t5 t38 t39 t40 => (Fn.labX_loop _ _ _ _ _ _ _ _ _ _ (by kernel_rfl)).trans (h3 t2 t5 t38 t39 t40)
  show F123.labD (bodyOf Try.f123) tabR tyR true (cs123 s123 n) rec (d + 1) 2 _ = _
  rw [Fn.labD_succ, p123_2]
  simp only [e3]
  rfl
theorem n123_1 (s123 : Tm → Int → Option Bool) (n : Nat) (rec : Nat → SS → Option (RT.den F123.rs)) (k3 : Tm → Int → (List Tm) → Int → Int → Option Bool) (h3 : ∀ t2 t5 t38 t39 t40, rec 3 (st123_3 t2 t5 t38 t39 t40) = k3 t2 t5 t38 t39 t40) (d : Nat) (t2 : Tm) (t5 : Int) : F123.labD (bodyOf Try.f123) tabR tyR true (cs123 s123 n) rec (d + 2) 1 (st123_1 t2 t5) = c123_1 s123 n k3 t2 t5 := by
  have e2 : ∀ t2 t5, F123.labX (bodyOf Try.f123) tabR tyR true (cs123 s123 n) rec (d + 1) 2 (st123_2 t2 t5) = c123_2 s123 n k3 t2 t5 := fun t2 t5 => (Fn.labX_step _ _ _ _ _ _ _ _ _ _ (by kernel_rfl)).trans (n123_2 s123 n rec k3 h3 d t2 t5)
  show F123.labD (bodyOf Try.f123) tabR tyR true (cs123 s123 n) rec ((d + 1) + 1) 1 _ = _
  rw [Fn.labD_succ, p123_1]
  simp only [e2]
  rfl
theorem m123_3 (s123 : Tm → Int → Option Bool) (n : Nat) : ∀ m : Nat, (∀ t2 t5 t38 t39 t40, F123.labM (bodyOf Try.f123) tabR tyR true (cs123 s123 n) m 3 (st123_3 t2 t5 t38 t39 t40) = l123_3 s123 n m t2 t5 t38 t39 t40) := by
  intro m
  induction m with
  | zero => exact fun _ _ _ _ _ => rfl
  | succ m ih =>
    intro t2 t5 t38 t39 t40
    have e3 : ∀ t2 t5 t38 t39 t40, F123.labX (bodyOf Try.f123) tabR tyR true (cs123 s123 n) (F123.labM (bodyOf Try.f123) tabR tyR true (cs123 s123 n) m) 4 3 (st123_3 t2 t5 t38 t39 t40) = (l123_3 s123 n m) t2 t5 t38 t39 t40 := fun t2 t5 t38 t39 t40 => (Fn.labX_loop _ _ _ _ _ _ _ _ _ _ (by kernel_rfl)).trans (ih t2 t5 t38 t39 t40)
    rw [Fn.labM_succ]
    show F123.labD (bodyOf Try.f123) tabR tyR true (cs123 s123 n) (F123.labM (bodyOf Try.f123) tabR tyR true (cs123 s123 n) m) (4 + 1) 3 _ = _
    rw [Fn.labD_succ, p123_3]
    simp only [e3]
    rfl
theorem w123 (s123 : Tm → Int → Option Bool) (n : Nat) (x : PTs.den F123.ps) : F123.body (bodyOf Try.f123) tabR tyR true (cs123 s123 n) (F123.labX (bodyOf Try.f123) tabR tyR true (cs123 s123 n) (F123.labM (bodyOf Try.f123) tabR tyR true (cs123 s123 n) n) F123.D) x = o123_0 s123 n (c123_1 s123 n (l123_3 s123 n n)) x.1 x.2.1 := by
  have e1 : ∀ t2 t5, F123.labX (bodyOf Try.f123) tabR tyR true (cs123 s123 n) (F123.labM (bodyOf Try.f123) tabR tyR true (cs123 s123 n) n) 5 1 (st123_1 t2 t5) = c123_1 s123 n (l123_3 s123 n n) t2 t5 := fun t2 t5 => (Fn.labX_step _ _ _ _ _ _ _ _ _ _ (by kernel_rfl)).trans (n123_1 s123 n (F123.labM (bodyOf Try.f123) tabR tyR true (cs123 s123 n) n) (l123_3 s123 n n) (m123_3 s123 n n) 3 t2 t5)
  show F123.body (bodyOf Try.f123) tabR tyR true (cs123 s123 n) (F123.labX (bodyOf Try.f123) tabR tyR true (cs123 s123 n) (F123.labM (bodyOf Try.f123) tabR tyR true (cs123 s123 n) n) 5) x = _
  rw [p123_0]
  simp only [e1]
  try rfl
theorem call123 : Callable Try.prog 123 := callable_of Try.func123 (by kernel_rfl) (by kernel_rfl)
theorem okr123 : ∀ n : Nat, Cal.Ok Try.prog ⟨123, F123.ps, F123.rs, F123.fr, fun a => f123 n a.1 a.2.1⟩
  | 0 => ⟨by kernel_rfl, fun a r h => by cases h⟩
  | n + 1 => cal_of_fn F123 (code := bodyOf Try.f123) Try.func123 (by kernel_rfl) (by kernel_rfl) call123 htabR (cs := cs123 (f123 n) n) (fun c hc => by
      simp only [cs123, List.mem_cons, List.not_mem_nil, or_false] at hc
      rcases hc with rfl | rfl | rfl | rfl
      · exact (okr123 n)
      · exact ok149
      · exact ok150
      · exact ok151) (fun _ => mixed) (by kernel_rfl) (by kernel_rfl) (by decide) (fun x => ⟨n, w123 (f123 n) n x⟩)
theorem ok123 (n : Nat) : Cal.Ok Try.prog ⟨123, F123.ps, F123.rs, F123.fr, fun a => f123 n a.1 a.2.1⟩ := (okr123 n)
-- tranship/term.Marked
def o79_0 (n : Nat) (a0 : Tm) : Option Bool :=
  (f123 n a0 (1 : Int)).bind fun x1 =>
  some x1
def f79 (n : Nat) (a0 : Tm) : Option Bool := o79_0 n a0
def an79 : An := .z
def F79 : Fn := { f := 79, a := an79, vars := [.tmp 2], ps := [.st .tm], rs := [.sc .bool], own := false, fr := true, nt := 5, D := 2, loops := [] }
def cs79 (n : Nat) : List Cal := [⟨123, [.st .tm, .sc .int], [.sc .bool], true, fun a => f123 n a.1 a.2.1⟩]
theorem p79_0 (n : Nat) (lab : Nat → SS → Option (RT.den F79.rs)) (x : PTs.den F79.ps) : F79.body (bodyOf Try.f79) tabR tyR true (cs79 n) lab x = o79_0 n x.1 := by kernel_rfl
theorem w79 (n : Nat) (x : PTs.den F79.ps) : F79.body (bodyOf Try.f79) tabR tyR true (cs79 n) (F79.labX (bodyOf Try.f79) tabR tyR true (cs79 n) (F79.labM (bodyOf Try.f79) tabR tyR true (cs79 n) 0) F79.D) x = o79_0 n x.1 := by
  show F79.body (bodyOf Try.f79) tabR tyR true (cs79 n) (F79.labX (bodyOf Try.f79) tabR tyR true (cs79 n) (F79.labM (bodyOf Try.f79) tabR tyR true (cs79 n) 0) 2) x = _
  rw [p79_0]
theorem call79 : Callable Try.prog 79 := callable_of Try.func79 (by kernel_rfl) (by kernel_rfl)
theorem ok79 (n : Nat) : Cal.Ok Try.prog ⟨79, F79.ps, F79.rs, F79.fr, fun a => f79 n a.1⟩ :=
  cal_of_fn F79 (code := bodyOf Try.f79) Try.func79 (by kernel_rfl) (by kernel_rfl) call79 htabR (cs := cs79 n) (fun c hc => by
      simp only [cs79, List.mem_cons, List.not_mem_nil, or_false] at hc
      rcases hc with rfl
      · exact ok123 n) (fun _ => mixed) (by kernel_rfl) (by kernel_rfl) (by decide) (fun x => ⟨0, w79 n x⟩)
-- tranship/transhipkeep.Same, tranship/transhipkeep.Terms
def o23_0 (s23 : Tm → Tm → Option Bool) (s49 : (List Tm) → (List Tm) → Option Bool) (n : Nat) (a0 : Tm) (a1 : Tm) : Option Bool :=
  ifB (decide (a0.kind = a1.kind)) (
    ifB (decide (a0.i = a1.i)) (
      ifB (decide (a0.j = a1.j)) (
        ifB (decide (a0.n = a1.n)) (
          (s49 a0.kids a1.kids).bind fun x1 =>
          some x1) (
          some false)) (
        some false)) (
      some false)) (
    some false)
def o49_0 (s23 : Tm → Tm → Option Bool) (s49 : (List Tm) → (List Tm) → Option Bool) (n : Nat) (k1 : (List Tm) → (List Tm) → Int → Option Bool) (a0 : List Tm) (a1 : List Tm) : Option Bool :=
  ifB (!decide ((a0.length : Int) = (a1.length : Int))) (
    some false) (
    k1 a0 a1 (0 : Int))
def o49_1 (s23 : Tm → Tm → Option Bool) (s49 : (List Tm) → (List Tm) → Option Bool) (n : Nat) (k1 : (List Tm) → (List Tm) → Int → Option Bool) (t0 : List Tm) (t1 : List Tm) (t5 : Int) : Option Bool :=
  ifB (decide (t5 < (t0.length : Int))) (
    atI t0 t5 fun x1 =>
    atI t1 t5 fun x2 =>
    (s23 x1 x2).bind fun x3 =>
    ifB (!x3) (
      some false) (
      ckI (t5 + (1 : Int)) <|
      k1 t0 t1 (t5 + (1 : Int)))) (
    some true)
def l49_1 (s23 : Tm → Tm → Option Bool) (s49 : (List Tm) → (List Tm) → Option Bool) (n : Nat) : Nat → (List Tm) → (List Tm) → Int → Option Bool
  | 0, _, _, _ => none
  | m + 1, t0, t1, t5 => o49_1 s23 s49 n (l49_1 s23 s49 n m) t0 t1 t5
mutual
def f23 : Nat → Tm → Tm → Option Bool
  | 0, _, _ => none
  | n + 1, a0, a1 => o23_0 (f23 n) (f49 n) n a0 a1
def f49 : Nat → (List Tm) → (List Tm) → Option Bool
  | 0, _, _ => none
  | n + 1, a0, a1 => o49_0 (f23 n) (f49 n) n (l49_1 (f23 n) (f49 n) n n) a0 a1
end
def an23 : An := .z
def F23 : Fn := { f := 23, a := an23, vars := [.tmp 4], ps := [.st .tm, .st .tm], rs := [.sc .bool], own := false, fr := true, nt := 38, D := 2, loops := [] }
def cs23 (s23 : Tm → Tm → Option Bool) (s49 : (List Tm) → (List Tm) → Option Bool) (n : Nat) : List Cal := [⟨49, [.sl .tm, .sl .tm], [.sc .bool], true, fun a => s49 a.1 a.2.1⟩]
theorem p23_0 (s23 : Tm → Tm → Option Bool) (s49 : (List Tm) → (List Tm) → Option Bool) (n : Nat) (lab : Nat → SS → Option (RT.den F23.rs)) (x : PTs.den F23.ps) : F23.body (bodyOf Try.f23) tabR tyR true (cs23 s23 s49 n) lab x = o23_0 s23 s49 n x.1 x.2.1 := by kernel_rfl
theorem w23 (s23 : Tm → Tm → Option Bool) (s49 : (List Tm) → (List Tm) → Option Bool) (n : Nat) (x : PTs.den F23.ps) : F23.body (bodyOf Try.f23) tabR tyR true (cs23 s23 s49 n) (F23.labX (bodyOf Try.f23) tabR tyR true (cs23 s23 s49 n) (F23.labM (bodyOf Try.f23) tabR tyR true (cs23 s23 s49 n) 0) F23.D) x = o23_0 s23 s49 n x.1 x.2.1 := by
  show F23.body (bodyOf Try.f23) tabR tyR true (cs23 s23 s49 n) (F23.labX (bodyOf Try.f23) tabR tyR true (cs23 s23 s49 n) (F23.labM (bodyOf Try.f23) tabR tyR true (cs23 s23 s49 n) 0) 2) x = _
  rw [p23_0]
theorem call23 : Callable Try.prog 23 := callable_of Try.func23 (by kernel_rfl) (by kernel_rfl)
def an49 : An := (.n none [] 0 .z (.n none [] 0 .z (.n none [] 0 (.n none [] 0 .z (.n none [] 0 (.n (some 1) [(0, .one (.d .tm false)), (1, .one (.d .tm false)), (5, .one .c)] 0 .z .z) .z)) .z)))
def F49 : Fn := { f := 49, a := an49, vars := [.tmp 4], ps := [.sl .tm, .sl .tm], rs := [.sc .bool], own := false, fr := true, nt := 27, D := 3, loops := [1] }
def cs49 (s23 : Tm → Tm → Option Bool) (s49 : (List Tm) → (List Tm) → Option Bool) (n : Nat) : List Cal := [⟨23, [.st .tm, .st .tm], [.sc .bool], true, fun a => s23 a.1 a.2.1⟩]
def st49_1 (t0 : List Tm) (t1 : List Tm) (t5 : Int) : SS := ⟨[(0, .v (.one (.c (.sl .tm t0) false))), (1, .v (.one (.c (.sl .tm t1) false))), (5, .v (.one (.c (.int t5) true)))], [], 0⟩
theorem p49_0 (s23 : Tm → Tm → Option Bool) (s49 : (List Tm) → (List Tm) → Option Bool) (n : Nat) (lab : Nat → SS → Option (RT.den F49.rs)) (x : PTs.den F49.ps) : F49.body (bodyOf Try.f49) tabR tyR true (cs49 s23 s49 n) lab x = o49_0 s23 s49 n (fun t0 t1 t5 => lab 1 (st49_1 t0 t1 t5)) x.1 x.2.1 := by kernel_rfl
theorem p49_1 (s23 : Tm → Tm → Option Bool) (s49 : (List Tm) → (List Tm) → Option Bool) (n : Nat) (lab : Nat → SS → Option (RT.den F49.rs)) (t0 : List Tm) (t1 : List Tm) (t5 : Int) : F49.at (bodyOf Try.f49) tabR tyR true (cs49 s23 s49 n) lab 1 (st49_1 t0 t1 t5) = o49_1 s23 s49 n (fun t0 t1 t5 => lab 1 (st49_1 t0 t1 t5)) t0 t1 t5 := by kernel_rfl
theorem m49_1 (s23 : Tm → Tm → Option Bool) (s49 : (List Tm) → (List Tm) → Option Bool) (n : Nat) : ∀ m : Nat, (∀ t0 t1 t5, F49.labM (bodyOf Try.f49) tabR tyR true (cs49 s23 s49 n) m 1 (st49_1 t0 t1 t5) = l49_1 s23 s49 n m t0 t1 t5) := by
  intro m
  induction m with
  | zero => exact fun _ _ _ => rfl
  | succ m ih =>
    intro t0 t1 t5
    have e1 : ∀ t0 t1 t5, F49.labX (bodyOf Try.f49) tabR tyR true (cs49 s23 s49 n) (F49.labM (bodyOf Try.f49) tabR tyR true (cs49 s23 s49 n) m) 2 1 (st49_1 t0 t1 t5) = (l49_1 s23 s49 n m) t0 t1 t5 := fun t0 t1 t5 => (Fn.labX_loop _ _ _ _ _ _ _ _ _ _ (by kernel_rfl)).trans (ih t0 t1 t5)
    rw [Fn.labM_succ]
    show F49.labD (bodyOf Try.f49) tabR tyR true (cs49 s23 s49 n) (F49.labM (bodyOf Try.f49) tabR tyR true (cs49 s23 s49 n) m) (2 + 1) 1 _ = _
    rw [Fn.labD_succ, p49_1]
    simp only [e1]
    rfl
theorem w49 (s23 : Tm → Tm → Option Bool) (s49 : (List Tm) → (List Tm) → Option Bool) (n : Nat) (x : PTs.den F49.ps) : F49.body (bodyOf Try.f49) tabR tyR true (cs49 s23 s49 n) (F49.labX (bodyOf Try.f49) tabR tyR true (cs49 s23 s49 n) (F49.labM (bodyOf Try.f49) tabR tyR true (cs49 s23 s49 n) n) F49.D) x = o49_0 s23 s49 n (l49_1 s23 s49 n n) x.1 x.2.1 := by
  have e1 : ∀ t0 t1 t5, F49.labX (bodyOf Try.f49) tabR tyR true (cs49 s23 s49 n) (F49.labM (bodyOf Try.f49) tabR tyR true (cs49 s23 s49 n) n) 3 1 (st49_1 t0 t1 t5) = (l49_1 s23 s49 n n) t0 t1 t5 := fun t0 t1 t5 => (Fn.labX_loop _ _ _ _ _ _ _ _ _ _ (by kernel_rfl)).trans ((m49_1 s23 s49 n n) t0 t1 t5)
  show F49.body (bodyOf Try.f49) tabR tyR true (cs49 s23 s49 n) (F49.labX (bodyOf Try.f49) tabR tyR true (cs49 s23 s49 n) (F49.labM (bodyOf Try.f49) tabR tyR true (cs49 s23 s49 n) n) 3) x = _
  rw [p49_0]
  simp only [e1]
  try rfl
theorem call49 : Callable Try.prog 49 := callable_of Try.func49 (by kernel_rfl) (by kernel_rfl)
theorem okr23 : ∀ n : Nat, Cal.Ok Try.prog ⟨23, F23.ps, F23.rs, F23.fr, fun a => f23 n a.1 a.2.1⟩ ∧ Cal.Ok Try.prog ⟨49, F49.ps, F49.rs, F49.fr, fun a => f49 n a.1 a.2.1⟩
  | 0 => ⟨⟨by kernel_rfl, fun a r h => by cases h⟩, ⟨by kernel_rfl, fun a r h => by cases h⟩⟩
  | n + 1 => ⟨cal_of_fn F23 (code := bodyOf Try.f23) Try.func23 (by kernel_rfl) (by kernel_rfl) call23 htabR (cs := cs23 (f23 n) (f49 n) n) (fun c hc => by
      simp only [cs23, List.mem_cons, List.not_mem_nil, or_false] at hc
      rcases hc with rfl
      · exact (okr23 n).2) (fun _ => mixed) (by kernel_rfl) (by kernel_rfl) (by decide) (fun x => ⟨0, w23 (f23 n) (f49 n) n x⟩),
    cal_of_fn F49 (code := bodyOf Try.f49) Try.func49 (by kernel_rfl) (by kernel_rfl) call49 htabR (cs := cs49 (f23 n) (f49 n) n) (fun c hc => by
      simp only [cs49, List.mem_cons, List.not_mem_nil, or_false] at hc
      rcases hc with rfl
      · exact (okr23 n).1) (fun _ => mixed) (by kernel_rfl) (by kernel_rfl) (by decide) (fun x => ⟨n, w49 (f23 n) (f49 n) n x⟩)⟩
theorem ok23 (n : Nat) : Cal.Ok Try.prog ⟨23, F23.ps, F23.rs, F23.fr, fun a => f23 n a.1 a.2.1⟩ := (okr23 n).1
-- tranship/transhipref04.Count
-- tranship/bare.Same
def o126_0 (s126 : Tm → Tm → Option Bool) (n : Nat) (k1 : Tm → Tm → Option Bool) (a0 : Tm) (a1 : Tm) : Option Bool :=
  ifB (!decide (a0.kind = a1.kind)) (
    some false) (
    ifB (!decide (a0.i = a1.i)) (
      some false) (
      ifB (!decide (a0.j = a1.j)) (
        some false) (
        ifB (!decide (a0.n = a1.n)) (
          some false) (
          ifB (!decide ((a0.kids.length : Int) = (a1.kids.length : Int))) (
            some false) (
            k1 a0 a1)))))
def o126_1 (s126 : Tm → Tm → Option Bool) (n : Nat) (k2 : Tm → Tm → Int → Int → Option Bool) (t2 : Tm) (t3 : Tm) : Option Bool :=
  k2 t2 t3 (t2.kids.length : Int) (0 : Int)
def o126_2 (s126 : Tm → Tm → Option Bool) (n : Nat) (k2 : Tm → Tm → Int → Int → Option Bool) (t2 : Tm) (t3 : Tm) (t43 : Int) (t44 : Int) : Option Bool :=
  ifB (decide (t44 < t43)) (
    atI t2.kids t44 fun x1 =>
    atI t3.kids t44 fun x2 =>
    (s126 x1 x2).bind fun x3 =>
    ifB (!x3) (
      some false) (
      ckI (t44 + (1 : Int)) <|
      k2 t2 t3 t43 (t44 + (1 : Int)))) (
    some true)
def c126_1 (s126 : Tm → Tm → Option Bool) (n : Nat) (k2 : Tm → Tm → Int → Int → Option Bool) (t2 : Tm) (t3 : Tm) : Option Bool :=
  o126_1 s126 n k2 t2 t3
def l126_2 (s126 : Tm → Tm → Option Bool) (n : Nat) : Nat → Tm → Tm → Int → Int → Option Bool
  | 0, _, _, _, _ => none
  | m + 1, t2, t3, t43, t44 => o126_2 s126 n (l126_2 s126 n m) t2 t3 t43 t44
def f126 : Nat → Tm → Tm → Option Bool
  | 0, _, _ => none
  | n + 1, a0, a1 => o126_0 (f126 n) n (c126_1 (f126 n) n (l126_2 (f126 n) n n)) a0 a1
def an126 : An := (.n none [] 0 .z (.n (some 1) [(2, .ps 0 .tm false), (3, .ps 1 .tm false)] 2 .z (.n none [] 0 (.n none [] 0 .z (.n none [] 0 (.n (some 2) [(2, .ps 0 .tm false), (3, .ps 1 .tm false), (43, .one .c), (44, .one .c)] 2 .z .z) .z)) .z)))
def F126 : Fn := { f := 126, a := an126, vars := [.tmp 4], ps := [.st .tm, .st .tm], rs := [.sc .bool], own := false, fr := true, nt := 60, D := 4, loops := [2] }
def cs126 (s126 : Tm → Tm → Option Bool) (n : Nat) : List Cal := [⟨126, [.st .tm, .st .tm], [.sc .bool], true, fun a => s126 a.1 a.2.1⟩]
def st126_1 (t2 : Tm) (t3 : Tm) : SS := ⟨[(2, .v (.one (.ptr 0 0))), (3, .v (.one (.ptr 1 0)))], [(0, some (.bst .tm t2 false)), (1, some (.bst .tm t3 false))], 2⟩
def st126_2 (t2 : Tm) (t3 : Tm) (t43 : Int) (t44 : Int) : SS := ⟨[(2, .v (.one (.ptr 0 0))), (3, .v (.one (.ptr 1 0))), (43, .v (.one (.c (.int t43) true))), (44, .v (.one (.c (.int t44) true)))], [(0, some (.bst .tm t2 false)), (1, some (.bst .tm t3 false))], 2⟩
theorem p126_0 (s126 : Tm → Tm → Option Bool) (n : Nat) (lab : Nat → SS → Option (RT.den F126.rs)) (x : PTs.den F126.ps) : F126.body (bodyOf Try.f126) tabR tyR true (cs126 s126 n) lab x = o126_0 s126 n (fun t2 t3 => lab 1 (st126_1 t2 t3)) x.1 x.2.1 := by kernel_rfl
theorem p126_1 (s126 : Tm → Tm → Option Bool) (n : Nat) (lab : Nat → SS → Option (RT.den F126.rs)) (t2 : Tm) (t3 : Tm) : F126.at (bodyOf Try.f126) tabR tyR true (cs126 s126 n) lab 1 (st126_1 t2 t3) = o126_1 s126 n (fun t2 t3 t43 t44 => lab 2 (st126_2 t2 t3 t43 t44)) t2 t3 := by kernel_rfl
theorem p126_2 (s126 : Tm → Tm → Option Bool) (n : Nat) (lab : Nat → SS → Option (RT.den F126.rs)) (t2 : Tm) (t3 : Tm) (t43 : Int) (t44 : Int) : F126.at (bodyOf Try.f126) tabR tyR true (cs126 s126 n) lab 2 (st126_2 t2 t3 t43 t44) = o126_2 s126 n (fun t2 t3 t43 t44 => lab 2 (st126_2 t2 t3 t43 t44)) t2 t3 t43 t44 := by kernel_rfl
theorem n126_1 (s126 : Tm → Tm → Option Bool) (n : Nat) (rec : Nat → SS → Option (RT.den F126.rs)) (k2 : Tm → Tm → Int → Int → Option Bool) (h2 : ∀ t2 t3 t43 t44, rec 2 (st126_2 t2 t3 t43 t44) = k2 t2 t3 t43 t44) (d : Nat) (t2 : Tm) (t3 : Tm) : F126.labD (bodyOf Try.f126) tabR tyR true (cs126 s126 n) rec (d + 1) 1 (st126_1 t2 t3) = c126_1 s126 n k2 t2 t3 := by
  have e2 : ∀ t2 t3 t43 t44, F126.labX (bodyOf Try.f126) tabR tyR true (cs126 s126 n) rec d 2 (st126_2 t2 t3 t43 t44) = k2 t2 t3 t43 t44 := fun t2 t3 t43 t44 => (Fn.labX_loop _ _ _ _ _ _ _ _ _ _ (by kernel_rfl)).trans (h2 t2 t3 t43 t44)
  show F126.labD (bodyOf Try.f126) tabR tyR true (cs126 s126 n) rec (d + 1) 1 _ = _
  rw [Fn.labD_succ, p126_1]
  simp only [e2]
  rfl
theorem m126_2 (s126 : Tm → Tm → Option Bool) (n : Nat) : ∀ m : Nat, (∀ t2 t3 t43 t44, F126.labM (bodyOf Try.f126) tabR tyR true (cs126 s126 n) m 2 (st126_2 t2 t3 t43 t44) = l126_2 s126 n m t2 t3 t43 t44) := by
  intro m
  induction m with
  | zero => exact fun _ _ _ _ => rfl
  | succ m ih =>
    intro t2 t3 t43 t44
    have e2 : ∀ t2 t3 t43 t44, F126.labX (bodyOf Try.f126) tabR tyR true (cs126 s126 n) (F126.labM (bodyOf Try.f126) tabR tyR true (cs126 s126 n) m) 3 2 (st126_2 t2 t3 t43 t44) = (l126_2 s126 n m) t2 t3 t43 t44 := fun t2 t3 t43 t44 => (Fn.labX_loop _ _ _ _ _ _ _ _ _ _ (by kernel_rfl)).trans (ih t2 t3 t43 t44)
    rw [Fn.labM_succ]
    show F126.labD (bodyOf Try.f126) tabR tyR true (cs126 s126 n) (F126.labM (bodyOf Try.f126) tabR tyR true (cs126 s126 n) m) (3 + 1) 2 _ = _
    rw [Fn.labD_succ, p126_2]
    simp only [e2]
    rfl
theorem w126 (s126 : Tm → Tm → Option Bool) (n : Nat) (x : PTs.den F126.ps) : F126.body (bodyOf Try.f126) tabR tyR true (cs126 s126 n) (F126.labX (bodyOf Try.f126) tabR tyR true (cs126 s126 n) (F126.labM (bodyOf Try.f126) tabR tyR true (cs126 s126 n) n) F126.D) x = o126_0 s126 n (c126_1 s126 n (l126_2 s126 n n)) x.1 x.2.1 := by
  have e1 : ∀ t2 t3, F126.labX (bodyOf Try.f126) tabR tyR true (cs126 s126 n) (F126.labM (bodyOf Try.f126) tabR tyR true (cs126 s126 n) n) 4 1 (st126_1 t2 t3) = c126_1 s126 n (l126_2 s126 n n) t2 t3 := fun t2 t3 => (Fn.labX_step _ _ _ _ _ _ _ _ _ _ (by kernel_rfl)).trans (n126_1 s126 n (F126.labM (bodyOf Try.f126) tabR tyR true (cs126 s126 n) n) (l126_2 s126 n n) (m126_2 s126 n n) 3 t2 t3)
  show F126.body (bodyOf Try.f126) tabR tyR true (cs126 s126 n) (F126.labX (bodyOf Try.f126) tabR tyR true (cs126 s126 n) (F126.labM (bodyOf Try.f126) tabR tyR true (cs126 s126 n) n) 4) x = _
  rw [p126_0]
  simp only [e1]
  try rfl
theorem call126 : Callable Try.prog 126 := callable_of Try.func126 (by kernel_rfl) (by kernel_rfl)
theorem okr126 : ∀ n : Nat, Cal.Ok Try.prog ⟨126, F126.ps, F126.rs, F126.fr, fun a => f126 n a.1 a.2.1⟩
  | 0 => ⟨by kernel_rfl, fun a r h => by cases h⟩
  | n + 1 => cal_of_fn F126 (code := bodyOf Try.f126) Try.func126 (by kernel_rfl) (by kernel_rfl) call126 htabR (cs := cs126 (f126 n) n) (fun c hc => by
      simp only [cs126, List.mem_cons, List.not_mem_nil, or_false] at hc
      rcases hc with rfl
      · exact (okr126 n)) (fun _ => mixed) (by kernel_rfl) (by kernel_rfl) (by decide) (fun x => ⟨n, w126 (f126 n) n x⟩)
theorem ok126 (n : Nat) : Cal.Ok Try.prog ⟨126, F126.ps, F126.rs, F126.fr, fun a => f126 n a.1 a.2.1⟩ := (okr126 n)
-- tranship/term.Right
def o87_0 (n : Nat) (a0 : Tm) : Option Bool :=
  (f123 n a0 (0 : Int)).bind fun x1 =>
  some x1
def f87 (n : Nat) (a0 : Tm) : Option Bool := o87_0 n a0
def an87 : An := .z
def F87 : Fn := { f := 87, a := an87, vars := [.tmp 2], ps := [.st .tm], rs := [.sc .bool], own := false, fr := true, nt := 5, D := 2, loops := [] }
def cs87 (n : Nat) : List Cal := [⟨123, [.st .tm, .sc .int], [.sc .bool], true, fun a => f123 n a.1 a.2.1⟩]
theorem p87_0 (n : Nat) (lab : Nat → SS → Option (RT.den F87.rs)) (x : PTs.den F87.ps) : F87.body (bodyOf Try.f87) tabR tyR true (cs87 n) lab x = o87_0 n x.1 := by kernel_rfl
theorem w87 (n : Nat) (x : PTs.den F87.ps) : F87.body (bodyOf Try.f87) tabR tyR true (cs87 n) (F87.labX (bodyOf Try.f87) tabR tyR true (cs87 n) (F87.labM (bodyOf Try.f87) tabR tyR true (cs87 n) 0) F87.D) x = o87_0 n x.1 := by
  show F87.body (bodyOf Try.f87) tabR tyR true (cs87 n) (F87.labX (bodyOf Try.f87) tabR tyR true (cs87 n) (F87.labM (bodyOf Try.f87) tabR tyR true (cs87 n) 0) 2) x = _
  rw [p87_0]
theorem call87 : Callable Try.prog 87 := callable_of Try.func87 (by kernel_rfl) (by kernel_rfl)
theorem ok87 (n : Nat) : Cal.Ok Try.prog ⟨87, F87.ps, F87.rs, F87.fr, fun a => f87 n a.1⟩ :=
  cal_of_fn F87 (code := bodyOf Try.f87) Try.func87 (by kernel_rfl) (by kernel_rfl) call87 htabR (cs := cs87 n) (fun c hc => by
      simp only [cs87, List.mem_cons, List.not_mem_nil, or_false] at hc
      rcases hc with rfl
      · exact ok123 n) (fun _ => mixed) (by kernel_rfl) (by kernel_rfl) (by decide) (fun x => ⟨0, w87 n x⟩)
-- tranship/bare.Copy
def o102_0 (s102 : Tm → Option Tm) (n : Nat) (k1 : Tm → Int → Int → Int → Int → (List Tm) → (List Tm) → Int → Int → Option Tm) (a0 : Tm) : Option Tm :=
  ifB (decide ((a0.kids.length : Int) = (0 : Int))) (
    some (Tm.mk a0.kind a0.i a0.j a0.n ([] : List Tm))) (
    ckB (decide (0 ≤ (a0.kids.length : Int)) && (decide ((a0.kids.length : Int) ≤ (a0.kids.length : Int)) && decide ((56 : Nat) * (a0.kids.length : Int) ≤ 281474976710656))) <|
    k1 a0 (0 : Int) (0 : Int) (0 : Int) (0 : Int) (List.replicate (a0.kids.length : Int).toNat (Tm.mk (0 : Int) (0 : Int) (0 : Int) (0 : Int) ([] : List Tm))) a0.kids (a0.kids.length : Int) (0 : Int))
def o102_1 (s102 : Tm → Option Tm) (n : Nat) (k1 : Tm → Int → Int → Int → Int → (List Tm) → (List Tm) → Int → Int → Option Tm) (t1 : Tm) (t2_0 : Int) (t2_1 : Int) (t2_2 : Int) (t2_3 : Int) (t3 : List Tm) (t17 : List Tm) (t18 : Int) (t19 : Int) : Option Tm :=
  ifB (decide (t19 < t18)) (
    atI t17 t19 fun x1 =>
    (s102 x1).bind fun x2 =>
    ckB (decide (0 ≤ t19) && decide (t19 < t3.length)) <|
    ckB (decide (t19.toNat < t3.length)) <|
    ckI (t19 + (1 : Int)) <|
    k1 t1 t2_0 t2_1 t2_2 t2_3 (t3.set t19.toNat (Tm.mk x2.kind x2.i x2.j x2.n x2.kids)) t17 t18 (t19 + (1 : Int))) (
    some (Tm.mk t1.kind t1.i t1.j t1.n t3))
def l102_1 (s102 : Tm → Option Tm) (n : Nat) : Nat → Tm → Int → Int → Int → Int → (List Tm) → (List Tm) → Int → Int → Option Tm
  | 0, _, _, _, _, _, _, _, _, _ => none
  | m + 1, t1, t2_0, t2_1, t2_2, t2_3, t3, t17, t18, t19 => o102_1 s102 n (l102_1 s102 n m) t1 t2_0 t2_1 t2_2 t2_3 t3 t17 t18 t19
def f102 : Nat → Tm → Option Tm
  | 0, _ => none
  | n + 1, a0 => o102_0 (f102 n) n (l102_1 (f102 n) n n) a0
def an102 : An := (.n none [] 0 .z (.n none [] 0 .z (.n none [] 0 .z (.n none [] 0 (.n none [] 0 .z (.n none [] 0 (.n (some 1) [(1, .ps 0 .tm false), (2, .p 1 [.c, .c, .c, .c, .k]), (3, .one (.r 2 24 .tm true)), (17, .one (.d .tm false)), (18, .one .c), (19, .one .c)] 3 .z .z) .z)) .z))))
def F102 : Fn := { f := 102, a := an102, vars := [.cell 2 24], ps := [.st .tm], rs := [.st .tm], own := false, fr := true, nt := 33, D := 3, loops := [1] }
def cs102 (s102 : Tm → Option Tm) (n : Nat) : List Cal := [⟨102, [.st .tm], [.st .tm], true, fun a => s102 a.1⟩]
def st102_1 (t1 : Tm) (t2_0 : Int) (t2_1 : Int) (t2_2 : Int) (t2_3 : Int) (t3 : List Tm) (t17 : List Tm) (t18 : Int) (t19 : Int) : SS := ⟨[(1, .v (.one (.ptr 0 0))), (2, .v (.one (.ptr 1 0))), (3, .v (.one (.arr 2))), (17, .v (.one (.c (.sl .tm t17) false))), (18, .v (.one (.c (.int t18) true))), (19, .v (.one (.c (.int t19) true)))], [(0, some (.bst .tm t1 false)), (1, some (.box [.c (.int t2_0) true, .c (.int t2_1) true, .c (.int t2_2) true, .c (.int t2_3) true, .nils])), (2, some (.row 24 .tm t3 true))], 3⟩
theorem p102_0 (s102 : Tm → Option Tm) (n : Nat) (lab : Nat → SS → Option (RT.den F102.rs)) (x : PTs.den F102.ps) : F102.body (bodyOf Try.f102) tabR tyR true (cs102 s102 n) lab x = o102_0 s102 n (fun t1 t2_0 t2_1 t2_2 t2_3 t3 t17 t18 t19 => lab 1 (st102_1 t1 t2_0 t2_1 t2_2 t2_3 t3 t17 t18 t19)) x.1 := by kernel_rfl
theorem p102_1 (s102 : Tm → Option Tm) (n : Nat) (lab : Nat → SS → Option (RT.den F102.rs)) (t1 : Tm) (t2_0 : Int) (t2_1 : Int) (t2_2 : Int) (t2_3 : Int) (t3 : List Tm) (t17 : List Tm) (t18 : Int) (t19 : Int) : F102.at (bodyOf Try.f102) tabR tyR true (cs102 s102 n) lab 1 (st102_1 t1 t2_0 t2_1 t2_2 t2_3 t3 t17 t18 t19) = o102_1 s102 n (fun t1 t2_0 t2_1 t2_2 t2_3 t3 t17 t18 t19 => lab 1 (st102_1 t1 t2_0 t2_1 t2_2 t2_3 t3 t17 t18 t19)) t1 t2_0 t2_1 t2_2 t2_3 t3 t17 t18 t19 := by kernel_rfl
theorem m102_1 (s102 : Tm → Option Tm) (n : Nat) : ∀ m : Nat, (∀ t1 t2_0 t2_1 t2_2 t2_3 t3 t17 t18 t19, F102.labM (bodyOf Try.f102) tabR tyR true (cs102 s102 n) m 1 (st102_1 t1 t2_0 t2_1 t2_2 t2_3 t3 t17 t18 t19) = l102_1 s102 n m t1 t2_0 t2_1 t2_2 t2_3 t3 t17 t18 t19) := by
  intro m
  induction m with
  | zero => exact fun _ _ _ _ _ _ _ _ _ => rfl
  | succ m ih =>
    intro t1 t2_0 t2_1 t2_2 t2_3 t3 t17 t18 t19
    have e1 : ∀ t1 t2_0 t2_1 t2_2 t2_3 t3 t17 t18 t19, F102.labX (bodyOf Try.f102) tabR tyR true (cs102 s102 n) (F102.labM (bodyOf Try.f102) tabR tyR true (cs102 s102 n) m) 2 1 (st102_1 t1 t2_0 t2_1 t2_2 t2_3 t3 t17 t18 t19) = (l102_1 s102 n m) t1 t2_0 t2_1 t2_2 t2_3 t3 t17 t18 t19 := fun t1 t2_0 t2_1 t2_2 t2_3 t3 t17 t18 t19 => (Fn.labX_loop _ _ _ _ _ _ _ _ _ _ (by kernel_rfl)).trans (ih t1 t2_0 t2_1 t2_2 t2_3 t3 t17 t18 t19)
    rw [Fn.labM_succ]
    show F102.labD (bodyOf Try.f102) tabR tyR true (cs102 s102 n) (F102.labM (bodyOf Try.f102) tabR tyR true (cs102 s102 n) m) (2 + 1) 1 _ = _
    rw [Fn.labD_succ, p102_1]
    simp only [e1]
    rfl
theorem w102 (s102 : Tm → Option Tm) (n : Nat) (x : PTs.den F102.ps) : F102.body (bodyOf Try.f102) tabR tyR true (cs102 s102 n) (F102.labX (bodyOf Try.f102) tabR tyR true (cs102 s102 n) (F102.labM (bodyOf Try.f102) tabR tyR true (cs102 s102 n) n) F102.D) x = o102_0 s102 n (l102_1 s102 n n) x.1 := by
  have e1 : ∀ t1 t2_0 t2_1 t2_2 t2_3 t3 t17 t18 t19, F102.labX (bodyOf Try.f102) tabR tyR true (cs102 s102 n) (F102.labM (bodyOf Try.f102) tabR tyR true (cs102 s102 n) n) 3 1 (st102_1 t1 t2_0 t2_1 t2_2 t2_3 t3 t17 t18 t19) = (l102_1 s102 n n) t1 t2_0 t2_1 t2_2 t2_3 t3 t17 t18 t19 := fun t1 t2_0 t2_1 t2_2 t2_3 t3 t17 t18 t19 => (Fn.labX_loop _ _ _ _ _ _ _ _ _ _ (by kernel_rfl)).trans ((m102_1 s102 n n) t1 t2_0 t2_1 t2_2 t2_3 t3 t17 t18 t19)
  show F102.body (bodyOf Try.f102) tabR tyR true (cs102 s102 n) (F102.labX (bodyOf Try.f102) tabR tyR true (cs102 s102 n) (F102.labM (bodyOf Try.f102) tabR tyR true (cs102 s102 n) n) 3) x = _
  rw [p102_0]
  simp only [e1]
  try rfl
theorem call102 : Callable Try.prog 102 := callable_of Try.func102 (by kernel_rfl) (by kernel_rfl)
theorem okr102 : ∀ n : Nat, Cal.Ok Try.prog ⟨102, F102.ps, F102.rs, F102.fr, fun a => f102 n a.1⟩
  | 0 => ⟨by kernel_rfl, fun a r h => by cases h⟩
  | n + 1 => cal_of_fn F102 (code := bodyOf Try.f102) Try.func102 (by kernel_rfl) (by kernel_rfl) call102 htabR (cs := cs102 (f102 n) n) (fun c hc => by
      simp only [cs102, List.mem_cons, List.not_mem_nil, or_false] at hc
      rcases hc with rfl
      · exact (okr102 n)) (fun _ => mixed) (by kernel_rfl) (by kernel_rfl) (by decide) (fun x => ⟨n, w102 (f102 n) n x⟩)
theorem ok102 (n : Nat) : Cal.Ok Try.prog ⟨102, F102.ps, F102.rs, F102.fr, fun a => f102 n a.1⟩ := (okr102 n)
-- tranship/bare.Of
def o127_0 (a0 : Int) (a1 : Int) (a2 : Int) (a3 : Int) (a4 : List Tm) : Option Tm :=
  ifB (decide ((0 : Int) < (a4.length : Int))) (
    ckB (decide (a4.length * 56 ≤ 140737488355328) && decide (a4.length ≤ 9223372036854775807)) <|
    some (Tm.mk a0 a1 a2 a3 a4)) (
    some (Tm.mk a0 a1 a2 a3 ([] : List Tm)))
def f127 (a0 : Int) (a1 : Int) (a2 : Int) (a3 : Int) (a4 : List Tm) : Option Tm := o127_0 a0 a1 a2 a3 a4
def an127 : An := .z
def F127 : Fn := { f := 127, a := an127, vars := [.cell 10 24], ps := [.sc .int, .sc .int, .sc .int, .sc .int, .sl .tm], rs := [.st .tm], own := false, fr := false, nt := 24, D := 2, loops := [] }
def cs127 : List Cal := []
theorem p127_0 (lab : Nat → SS → Option (RT.den F127.rs)) (x : PTs.den F127.ps) : F127.body (bodyOf Try.f127) tabR tyR true cs127 lab x = o127_0 x.1 x.2.1 x.2.2.1 x.2.2.2.1 x.2.2.2.2.1 := by kernel_rfl
theorem w127 (x : PTs.den F127.ps) : F127.body (bodyOf Try.f127) tabR tyR true cs127 (F127.labX (bodyOf Try.f127) tabR tyR true cs127 (F127.labM (bodyOf Try.f127) tabR tyR true cs127 0) F127.D) x = o127_0 x.1 x.2.1 x.2.2.1 x.2.2.2.1 x.2.2.2.2.1 := by
  show F127.body (bodyOf Try.f127) tabR tyR true cs127 (F127.labX (bodyOf Try.f127) tabR tyR true cs127 (F127.labM (bodyOf Try.f127) tabR tyR true cs127 0) 2) x = _
  rw [p127_0]
theorem call127 : Callable Try.prog 127 := callable_of Try.func127 (by kernel_rfl) (by kernel_rfl)
theorem ok127 : Cal.Ok Try.prog ⟨127, F127.ps, F127.rs, F127.fr, fun a => f127 a.1 a.2.1 a.2.2.1 a.2.2.2.1 a.2.2.2.2.1⟩ :=
  cal_of_fn F127 (code := bodyOf Try.f127) Try.func127 (by kernel_rfl) (by kernel_rfl) call127 htabR (cs := cs127) (fun c hc => by simp only [cs127, List.not_mem_nil] at hc) (fun _ => mixed) (by kernel_rfl) (by kernel_rfl) (by decide) (fun x => ⟨0, w127 x⟩)
def an127p : An := .z
def F127p : Fn := { f := 127, a := an127p, vars := [.cell 10 24], ps := [.sc .int, .sc .int, .sc .int, .sc .int, .sl .tm], rs := [.pst .tm], own := false, fr := true, nt := 24, D := 2, loops := [] }
def cs127p : List Cal := []
theorem p127p_0 (lab : Nat → SS → Option (RT.den F127p.rs)) (x : PTs.den F127p.ps) : F127p.body (bodyOf Try.f127) tabR tyR true cs127p lab x = o127_0 x.1 x.2.1 x.2.2.1 x.2.2.2.1 x.2.2.2.2.1 := by kernel_rfl
theorem w127p (x : PTs.den F127p.ps) : F127p.body (bodyOf Try.f127) tabR tyR true cs127p (F127p.labX (bodyOf Try.f127) tabR tyR true cs127p (F127p.labM (bodyOf Try.f127) tabR tyR true cs127p 0) F127p.D) x = o127_0 x.1 x.2.1 x.2.2.1 x.2.2.2.1 x.2.2.2.2.1 := by
  show F127p.body (bodyOf Try.f127) tabR tyR true cs127p (F127p.labX (bodyOf Try.f127) tabR tyR true cs127p (F127p.labM (bodyOf Try.f127) tabR tyR true cs127p 0) 2) x = _
  rw [p127p_0]
theorem ok127p : Cal.Ok Try.prog ⟨127, F127p.ps, F127p.rs, F127p.fr, fun a => f127 a.1 a.2.1 a.2.2.1 a.2.2.2.1 a.2.2.2.2.1⟩ :=
  cal_of_fn F127p (code := bodyOf Try.f127) Try.func127 (by kernel_rfl) (by kernel_rfl) call127 htabR (cs := cs127p) (fun c hc => by simp only [cs127p, List.not_mem_nil] at hc) (fun _ => mixed) (by kernel_rfl) (by kernel_rfl) (by decide) (fun x => ⟨0, w127p x⟩)
-- tranship/transhipref04.Right
-- tranship/transhipref04.Binds
-- tranship/bare.Binds
def o129_0 (k1 : Int → Int → Bool → Option Int) (a0 : Int) (a1 : Int) : Option Int :=
  ifB (decide (a0 = (3 : Int))) (
    k1 a1 a0 (decide (a0 = (3 : Int)))) (
    ifB (decide (a0 = (5 : Int))) (
      k1 a1 a0 (decide (a0 = (5 : Int)))) (
      ifB (decide (a0 = (6 : Int))) (
        k1 a1 a0 (decide (a0 = (6 : Int)))) (
        ifB (decide (a0 = (7 : Int))) (
          k1 a1 a0 (decide (a0 = (7 : Int)))) (
          ifB (decide (a0 = (8 : Int))) (
            k1 a1 a0 (decide (a0 = (8 : Int)))) (
            ifB (decide (a0 = (9 : Int))) (
              k1 a1 a0 (decide (a0 = (9 : Int)))) (
              ifB (decide (a0 = (13 : Int))) (
                k1 a1 a0 (decide (a0 = (13 : Int)))) (
                ifB (decide (a0 = (14 : Int))) (
                  k1 a1 a0 (decide (a0 = (14 : Int)))) (
                  ifB (decide (a0 = (16 : Int))) (
                    k1 a1 a0 (decide (a0 = (16 : Int)))) (
                    k1 a1 a0 (decide (a0 = (17 : Int))))))))))))
def o129_1 (t1 : Int) (t5 : Int) (t6 : Bool) : Option Int :=
  ifB t6 (
    ifB (decide (t1 = (1 : Int))) (
      some (1 : Int)) (
      some (0 : Int))) (
    ifB (decide (t5 = (4 : Int))) (
      ifB (decide (t1 = (1 : Int))) (
        some (1 : Int)) (
        ifB (decide (t1 = (2 : Int))) (
          some (1 : Int)) (
          some (0 : Int)))) (
      ifB (decide (t5 = (22 : Int))) (
        ifB (decide (t1 = (2 : Int))) (
          some (2 : Int)) (
          some (0 : Int))) (
        some (0 : Int))))
def c129_1 (t1 : Int) (t5 : Int) (t6 : Bool) : Option Int :=
  o129_1 t1 t5 t6
def f129 (a0 : Int) (a1 : Int) : Option Int := o129_0 (c129_1) a0 a1
def an129 : An := (.n none [] 0 .z (.n none [] 0 (.n none [] 0 .z (.n none [] 0 (.n (some 1) [(1, .one .c), (5, .one .c), (6, .one .c)] 0 .z .z) .z)) .z))
def F129 : Fn := { f := 129, a := an129, vars := [.tmp 4], ps := [.sc .int, .sc .int], rs := [.sc .int], own := false, fr := true, nt := 31, D := 3, loops := [] }
def cs129 : List Cal := []
def st129_1 (t1 : Int) (t5 : Int) (t6 : Bool) : SS := ⟨[(1, .v (.one (.c (.int t1) true))), (5, .v (.one (.c (.int t5) true))), (6, .v (.one (.c (.bool t6) true)))], [], 0⟩
theorem p129_0 (lab : Nat → SS → Option (RT.den F129.rs)) (x : PTs.den F129.ps) : F129.body (bodyOf Try.f129) tabR tyR true cs129 lab x = o129_0 (fun t1 t5 t6 => lab 1 (st129_1 t1 t5 t6)) x.1 x.2.1 := by kernel_rfl
theorem p129_1 (lab : Nat → SS → Option (RT.den F129.rs)) (t1 : Int) (t5 : Int) (t6 : Bool) : F129.at (bodyOf Try.f129) tabR tyR true cs129 lab 1 (st129_1 t1 t5 t6) = o129_1 t1 t5 t6 := by kernel_rfl
theorem n129_1 (rec : Nat → SS → Option (RT.den F129.rs)) (d : Nat) (t1 : Int) (t5 : Int) (t6 : Bool) : F129.labD (bodyOf Try.f129) tabR tyR true cs129 rec (d + 1) 1 (st129_1 t1 t5 t6) = c129_1 t1 t5 t6 := by
  show F129.labD (bodyOf Try.f129) tabR tyR true cs129 rec (d + 1) 1 _ = _
  rw [Fn.labD_succ, p129_1]
  rfl
theorem w129 (x : PTs.den F129.ps) : F129.body (bodyOf Try.f129) tabR tyR true cs129 (F129.labX (bodyOf Try.f129) tabR tyR true cs129 (F129.labM (bodyOf Try.f129) tabR tyR true cs129 0) F129.D) x = o129_0 (c129_1) x.1 x.2.1 := by
  have e1 : ∀ t1 t5 t6, F129.labX (bodyOf Try.f129) tabR tyR true cs129 (F129.labM (bodyOf Try.f129) tabR tyR true cs129 0) 3 1 (st129_1 t1 t5 t6) = c129_1 t1 t5 t6 := fun t1 t5 t6 => (Fn.labX_step _ _ _ _ _ _ _ _ _ _ (by kernel_rfl)).trans (n129_1 (F129.labM (bodyOf Try.f129) tabR tyR true cs129 0) 2 t1 t5 t6)
  show F129.body (bodyOf Try.f129) tabR tyR true cs129 (F129.labX (bodyOf Try.f129) tabR tyR true cs129 (F129.labM (bodyOf Try.f129) tabR tyR true cs129 0) 3) x = _
  rw [p129_0]
  simp only [e1]
  try rfl
theorem call129 : Callable Try.prog 129 := callable_of Try.func129 (by kernel_rfl) (by kernel_rfl)
theorem ok129 : Cal.Ok Try.prog ⟨129, F129.ps, F129.rs, F129.fr, fun a => f129 a.1 a.2.1⟩ :=
  cal_of_fn F129 (code := bodyOf Try.f129) Try.func129 (by kernel_rfl) (by kernel_rfl) call129 htabR (cs := cs129) (fun c hc => by simp only [cs129, List.not_mem_nil] at hc) (fun _ => mixed) (by kernel_rfl) (by kernel_rfl) (by decide) (fun x => ⟨0, w129 x⟩)
-- tranship/bare.Lift
def o92_0 (s92 : Tm → Int → Int → Option (Tm × Bool)) (n : Nat) (k2 : Int → Int → Tm → Int → Int → Int → Int → Bool → Option (Tm × Bool)) (a0 : Tm) (a1 : Int) (a2 : Int) : Option (Tm × Bool) :=
  ifB (decide (a0.kind = (2 : Int))) (
    k2 a1 a2 a0 (0 : Int) (0 : Int) (0 : Int) (0 : Int) (decide (a2 ≤ a0.i))) (
    k2 a1 a2 a0 (0 : Int) (0 : Int) (0 : Int) (0 : Int) false)
def o92_1 (s92 : Tm → Int → Int → Option (Tm × Bool)) (n : Nat) (k3 : Int → Int → Tm → Int → Int → Int → Int → (List Tm) → (List Tm) → Int → Int → Option (Tm × Bool)) (t1 : Int) (t2 : Int) (t3 : Tm) (t6_0 : Int) (t6_1 : Int) (t6_2 : Int) (t6_3 : Int) : Option (Tm × Bool) :=
  ifB (decide ((t3.kids.length : Int) = (0 : Int))) (
    some ((Tm.mk t3.kind t3.i t3.j t3.n ([] : List Tm)), true)) (
    ckB (decide (0 ≤ (t3.kids.length : Int)) && (decide ((t3.kids.length : Int) ≤ (t3.kids.length : Int)) && decide ((56 : Nat) * (t3.kids.length : Int) ≤ 281474976710656))) <|
    k3 t1 t2 t3 t6_0 t6_1 t6_2 t6_3 (List.replicate (t3.kids.length : Int).toNat (Tm.mk (0 : Int) (0 : Int) (0 : Int) (0 : Int) ([] : List Tm))) t3.kids (t3.kids.length : Int) (0 : Int))
def o92_2 (s92 : Tm → Int → Int → Option (Tm × Bool)) (n : Nat) (k1 : Int → Int → Tm → Int → Int → Int → Int → Option (Tm × Bool)) (t1 : Int) (t2 : Int) (t3 : Tm) (t6_0 : Int) (t6_1 : Int) (t6_2 : Int) (t6_3 : Int) (t21 : Bool) : Option (Tm × Bool) :=
  ifB t21 (
    ckI ((2147483647 : Int) - t3.i) <|
    ifB (decide (((2147483647 : Int) - t3.i) < t1)) (
      some ((Tm.mk (0 : Int) (0 : Int) (0 : Int) (0 : Int) ([] : List Tm)), false)) (
      ckI (t3.i + t1) <|
      k1 t1 t2 (Tm.mk t3.kind (t3.i + t1) t3.j t3.n t3.kids) t6_0 t6_1 t6_2 t6_3)) (
    k1 t1 t2 t3 t6_0 t6_1 t6_2 t6_3)
def o92_3 (s92 : Tm → Int → Int → Option (Tm × Bool)) (n : Nat) (k3 : Int → Int → Tm → Int → Int → Int → Int → (List Tm) → (List Tm) → Int → Int → Option (Tm × Bool)) (t1 : Int) (t2 : Int) (t3 : Tm) (t6_0 : Int) (t6_1 : Int) (t6_2 : Int) (t6_3 : Int) (t8 : List Tm) (t44 : List Tm) (t45 : Int) (t46 : Int) : Option (Tm × Bool) :=
  ifB (decide (t46 < t45)) (
    atI t44 t46 fun x1 =>
    (f129 t3.kind t46).bind fun x2 =>
    ckI (t2 + x2) <|
    (s92 x1 t1 (t2 + x2)).bind fun x3 =>
    ifB (!x3.2) (
      some ((Tm.mk (0 : Int) (0 : Int) (0 : Int) (0 : Int) ([] : List Tm)), false)) (
      ckB (decide (0 ≤ t46) && decide (t46 < t8.length)) <|
      ckB (decide (t46.toNat < t8.length)) <|
      ckI (t46 + (1 : Int)) <|
      k3 t1 t2 t3 t6_0 t6_1 t6_2 t6_3 (t8.set t46.toNat (Tm.mk x3.1.kind x3.1.i x3.1.j x3.1.n x3.1.kids)) t44 t45 (t46 + (1 : Int)))) (
    some ((Tm.mk t3.kind t3.i t3.j t3.n t8), true))
def c92_1 (s92 : Tm → Int → Int → Option (Tm × Bool)) (n : Nat) (k3 : Int → Int → Tm → Int → Int → Int → Int → (List Tm) → (List Tm) → Int → Int → Option (Tm × Bool)) (t1 : Int) (t2 : Int) (t3 : Tm) (t6_0 : Int) (t6_1 : Int) (t6_2 : Int) (t6_3 : Int) : Option (Tm × Bool) :=
  o92_1 s92 n k3 t1 t2 t3 t6_0 t6_1 t6_2 t6_3
def c92_2 (s92 : Tm → Int → Int → Option (Tm × Bool)) (n : Nat) (k3 : Int → Int → Tm → Int → Int → Int → Int → (List Tm) → (List Tm) → Int → Int → Option (Tm × Bool)) (t1 : Int) (t2 : Int) (t3 : Tm) (t6_0 : Int) (t6_1 : Int) (t6_2 : Int) (t6_3 : Int) (t21 : Bool) : Option (Tm × Bool) :=
  o92_2 s92 n (c92_1 s92 n k3) t1 t2 t3 t6_0 t6_1 t6_2 t6_3 t21
def l92_3 (s92 : Tm → Int → Int → Option (Tm × Bool)) (n : Nat) : Nat → Int → Int → Tm → Int → Int → Int → Int → (List Tm) → (List Tm) → Int → Int → Option (Tm × Bool)
  | 0, _, _, _, _, _, _, _, _, _, _, _ => none
  | m + 1, t1, t2, t3, t6_0, t6_1, t6_2, t6_3, t8, t44, t45, t46 => o92_3 s92 n (l92_3 s92 n m) t1 t2 t3 t6_0 t6_1 t6_2 t6_3 t8 t44 t45 t46
def f92 : Nat → Tm → Int → Int → Option (Tm × Bool)
  | 0, _, _, _ => none
  | n + 1, a0, a1, a2 => o92_0 (f92 n) n (c92_2 (f92 n) n (l92_3 (f92 n) n n)) a0 a1 a2
def an92 : An := (.n none [] 0 .z (.n (some 1) [(1, .one .c), (2, .one .c), (3, .ps 0 .tm false), (6, .p 1 [.c, .c, .c, .c, .k])] 2 (.n (some 2) [(1, .one .c), (2, .one .c), (3, .ps 0 .tm false), (6, .p 1 [.c, .c, .c, .c, .k]), (21, .one .c)] 2 .z .z) (.n none [] 0 .z (.n none [] 0 .z (.n none [] 0 (.n none [] 0 .z (.n none [] 0 (.n (some 3) [(1, .one .c), (2, .one .c), (3, .ps 0 .tm false), (6, .p 1 [.c, .c, .c, .c, .k]), (8, .one (.r 2 24 .tm true)), (44, .one (.d .tm false)), (45, .one .c), (46, .one .c)] 3 .z .z) .z)) .z)))))
def F92 : Fn := { f := 92, a := an92, vars := [.cell 6 24, .tmp 7], ps := [.st .tm, .sc .int, .sc .int], rs := [.st .tm, .sc .bool], own := false, fr := true, nt := 74, D := 5, loops := [3] }
def cs92 (s92 : Tm → Int → Int → Option (Tm × Bool)) (n : Nat) : List Cal := [⟨92, [.st .tm, .sc .int, .sc .int], [.st .tm, .sc .bool], true, fun a => s92 a.1 a.2.1 a.2.2.1⟩, ⟨129, [.sc .int, .sc .int], [.sc .int], true, fun a => f129 a.1 a.2.1⟩]
def st92_1 (t1 : Int) (t2 : Int) (t3 : Tm) (t6_0 : Int) (t6_1 : Int) (t6_2 : Int) (t6_3 : Int) : SS := ⟨[(1, .v (.one (.c (.int t1) true))), (2, .v (.one (.c (.int t2) true))), (3, .v (.one (.ptr 0 0))), (6, .v (.one (.ptr 1 0)))], [(0, some (.bst .tm t3 false)), (1, some (.box [.c (.int t6_0) true, .c (.int t6_1) true, .c (.int t6_2) true, .c (.int t6_3) true, .nils]))], 2⟩
def st92_2 (t1 : Int) (t2 : Int) (t3 : Tm) (t6_0 : Int) (t6_1 : Int) (t6_2 : Int) (t6_3 : Int) (t21 : Bool) : SS := ⟨[(1, .v (.one (.c (.int t1) true))), (2, .v (.one (.c (.int t2) true))), (3, .v (.one (.ptr 0 0))), (6, .v (.one (.ptr 1 0))), (21, .v (.one (.c (.bool t21) true)))], [(0, some (.bst .tm t3 false)), (1, some (.box [.c (.int t6_0) true, .c (.int t6_1) true, .c (.int t6_2) true, .c (.int t6_3) true, .nils]))], 2⟩
def st92_3 (t1 : Int) (t2 : Int) (t3 : Tm) (t6_0 : Int) (t6_1 : Int) (t6_2 : Int) (t6_3 : Int) (t8 : List Tm) (t44 : List Tm) (t45 : Int) (t46 : Int) : SS := ⟨[(1, .v (.one (.c (.int t1) true))), (2, .v (.one (.c (.int t2) true))), (3, .v (.one (.ptr 0 0))), (6, .v (.one (.ptr 1 0))), (8, .v (.one (.arr 2))), (44, .v (.one (.c (.sl .tm t44) false))), (45, .v (.one (.c (.int t45) true))), (46, .v (.one (.c (.int t46) true)))], [(0, some (.bst .tm t3 false)), (1, some (.box [.c (.int t6_0) true, .c (.int t6_1) true, .c (.int t6_2) true, .c (.int t6_3) true, .nils])), (2, some (.row 24 .tm t8 true))], 3⟩
theorem p92_0 (s92 : Tm → Int → Int → Option (Tm × Bool)) (n : Nat) (lab : Nat → SS → Option (RT.den F92.rs)) (x : PTs.den F92.ps) : F92.body (bodyOf Try.f92) tabR tyR true (cs92 s92 n) lab x = o92_0 s92 n (fun t1 t2 t3 t6_0 t6_1 t6_2 t6_3 t21 => lab 2 (st92_2 t1 t2 t3 t6_0 t6_1 t6_2 t6_3 t21)) x.1 x.2.1 x.2.2.1 := by kernel_rfl
theorem p92_1 (s92 : Tm → Int → Int → Option (Tm × Bool)) (n : Nat) (lab : Nat → SS → Option (RT.den F92.rs)) (t1 : Int) (t2 : Int) (t3 : Tm) (t6_0 : Int) (t6_1 : Int) (t6_2 : Int) (t6_3 : Int) : F92.at (bodyOf Try.f92) tabR tyR true (cs92 s92 n) lab 1 (st92_1 t1 t2 t3 t6_0 t6_1 t6_2 t6_3) = o92_1 s92 n (fun t1 t2 t3 t6_0 t6_1 t6_2 t6_3 t8 t44 t45 t46 => lab 3 (st92_3 t1 t2 t3 t6_0 t6_1 t6_2 t6_3 t8 t44 t45 t46)) t1 t2 t3 t6_0 t6_1 t6_2 t6_3 := by kernel_rfl
theorem p92_2 (s92 : Tm → Int → Int → Option (Tm × Bool)) (n : Nat) (lab : Nat → SS → Option (RT.den F92.rs)) (t1 : Int) (t2 : Int) (t3 : Tm) (t6_0 : Int) (t6_1 : Int) (t6_2 : Int) (t6_3 : Int) (t21 : Bool) : F92.at (bodyOf Try.f92) tabR tyR true (cs92 s92 n) lab 2 (st92_2 t1 t2 t3 t6_0 t6_1 t6_2 t6_3 t21) = o92_2 s92 n (fun t1 t2 t3 t6_0 t6_1 t6_2 t6_3 => lab 1 (st92_1 t1 t2 t3 t6_0 t6_1 t6_2 t6_3)) t1 t2 t3 t6_0 t6_1 t6_2 t6_3 t21 := by kernel_rfl
theorem p92_3 (s92 : Tm → Int → Int → Option (Tm × Bool)) (n : Nat) (lab : Nat → SS → Option (RT.den F92.rs)) (t1 : Int) (t2 : Int) (t3 : Tm) (t6_0 : Int) (t6_1 : Int) (t6_2 : Int) (t6_3 : Int) (t8 : List Tm) (t44 : List Tm) (t45 : Int) (t46 : Int) : F92.at (bodyOf Try.f92) tabR tyR true (cs92 s92 n) lab 3 (st92_3 t1 t2 t3 t6_0 t6_1 t6_2 t6_3 t8 t44 t45 t46) = o92_3 s92 n (fun t1 t2 t3 t6_0 t6_1 t6_2 t6_3 t8 t44 t45 t46 => lab 3 (st92_3 t1 t2 t3 t6_0 t6_1 t6_2 t6_3 t8 t44 t45 t46)) t1 t2 t3 t6_0 t6_1 t6_2 t6_3 t8 t44 t45 t46 := by kernel_rfl
theorem n92_1 (s92 : Tm → Int → Int → Option (Tm × Bool)) (n : Nat) (rec : Nat → SS → Option (RT.den F92.rs)) (k3 : Int → Int → Tm → Int → Int → Int → Int → (List Tm) → (List Tm) → Int → Int → Option (Tm × Bool)) (h3 : ∀ t1 t2 t3 t6_0 t6_1 t6_2 t6_3 t8 t44 t45 t46, rec 3 (st92_3 t1 t2 t3 t6_0 t6_1 t6_2 t6_3 t8 t44 t45 t46) = k3 t1 t2 t3 t6_0 t6_1 t6_2 t6_3 t8 t44 t45 t46) (d : Nat) (t1 : Int) (t2 : Int) (t3 : Tm) (t6_0 : Int) (t6_1 : Int) (t6_2 : Int) (t6_3 : Int) : F92.labD (bodyOf Try.f92) tabR tyR true (cs92 s92 n) rec (d + 1) 1 (st92_1 t1 t2 t3 t6_0 t6_1 t6_2 t6_3) = c92_1 s92 n k3 t1 t2 t3 t6_0 t6_1 t6_2 t6_3 := by
  have e3 : ∀ t1 t2 t3 t6_0 t6_1 t6_2 t6_3 t8 t44 t45 t46, F92.labX (bodyOf Try.f92) tabR tyR true (cs92 s92 n) rec d 3 (st92_3 t1 t2 t3 t6_0 t6_1 t6_2 t6_3 t8 t44 t45 t46) = k3 t1 t2 t3 t6_0 t6_1 t6_2 t6_3 t8 t44 t45 t46 := fun t1 t2 t3 t6_0 t6_1 t6_2 t6_3 t8 t44 t45 t46 => (Fn.labX_loop _ _ _ _ _ _ _ _ _ _ (by kernel_rfl)).trans (h3 t1 t2 t3 t6_0 t6_1 t6_2 t6_3 t8 t44 t45 t46)
  show F92.labD (bodyOf Try.f92) tabR tyR true (cs92 s92 n) rec (d + 1) 1 _ = _
  rw [Fn.labD_succ, p92_1]
  simp only [e3]
  rfl
theorem n92_2 (s92 : Tm → Int → Int → Option (Tm × Bool)) (n : Nat) (rec : Nat → SS → Option (RT.den F92.rs)) (k3 : Int → Int → Tm → Int → Int → Int → Int → (List Tm) → (List Tm) → Int → Int → Option (Tm × Bool)) (h3 : ∀ t1 t2 t3 t6_0 t6_1 t6_2 t6_3 t8 t44 t45 t46, rec 3 (st92_3 t1 t2 t3 t6_0 t6_1 t6_2 t6_3 t8 t44 t45 t46) = k3 t1 t2 t3 t6_0 t6_1 t6_2 t6_3 t8 t44 t45 t46) (d : Nat) (t1 : Int) (t2 : Int) (t3 : Tm) (t6_0 : Int) (t6_1 : Int) (t6_2 : Int) (t6_3 : Int) (t21 : Bool) : F92.labD (bodyOf Try.f92) tabR tyR true (cs92 s92 n) rec (d + 2) 2 (st92_2 t1 t2 t3 t6_0 t6_1 t6_2 t6_3 t21) = c92_2 s92 n k3 t1 t2 t3 t6_0 t6_1 t6_2 t6_3 t21 := by
  have e1 : ∀ t1 t2 t3 t6_0 t6_1 t6_2 t6_3, F92.labX (bodyOf Try.f92) tabR tyR true (cs92 s92 n) rec (d + 1) 1 (st92_1 t1 t2 t3 t6_0 t6_1 t6_2 t6_3) = c92_1 s92 n k3 t1 t2 t3 t6_0 t6_1 t6_2 t6_3 := fun t1 t2 t3 t6_0 t6_1 t6_2 t6_3 => (Fn.labX_step _ _ _ _ _ _ _ _ _ _ (by kernel_rfl)).trans (n92_1 s92 n rec k3 h3 d t1 t2 t3 t6_0 t6_1 t6_2 t6_3)
  show F92.labD (bodyOf Try.f92) tabR tyR true (cs92 s92 n) rec ((d + 1) + 1) 2 _ = _
  rw [Fn.labD_succ, p92_2]
  simp only [e1]
  rfl
theorem m92_3 (s92 : Tm → Int → Int → Option (Tm × Bool)) (n : Nat) : ∀ m : Nat, (∀ t1 t2 t3 t6_0 t6_1 t6_2 t6_3 t8 t44 t45 t46, F92.labM (bodyOf Try.f92) tabR tyR true (cs92 s92 n) m 3 (st92_3 t1 t2 t3 t6_0 t6_1 t6_2 t6_3 t8 t44 t45 t46) = l92_3 s92 n m t1 t2 t3 t6_0 t6_1 t6_2 t6_3 t8 t44 t45 t46) := by
  intro m
  induction m with
  | zero => exact fun _ _ _ _ _ _ _ _ _ _ _ => rfl
  | succ m ih =>
    intro t1 t2 t3 t6_0 t6_1 t6_2 t6_3 t8 t44 t45 t46
    have e3 : ∀ t1 t2 t3 t6_0 t6_1 t6_2 t6_3 t8 t44 t45 t46, F92.labX (bodyOf Try.f92) tabR tyR true (cs92 s92 n) (F92.labM (bodyOf Try.f92) tabR tyR true (cs92 s92 n) m) 4 3 (st92_3 t1 t2 t3 t6_0 t6_1 t6_2 t6_3 t8 t44 t45 t46) = (l92_3 s92 n m) t1 t2 t3 t6_0 t6_1 t6_2 t6_3 t8 t44 t45 t46 := fun t1 t2 t3 t6_0 t6_1 t6_2 t6_3 t8 t44 t45 t46 => (Fn.labX_loop _ _ _ _ _ _ _ _ _ _ (by kernel_rfl)).trans (ih t1 t2 t3 t6_0 t6_1 t6_2 t6_3 t8 t44 t45 t46)
    rw [Fn.labM_succ]
    show F92.labD (bodyOf Try.f92) tabR tyR true (cs92 s92 n) (F92.labM (bodyOf Try.f92) tabR tyR true (cs92 s92 n) m) (4 + 1) 3 _ = _
    rw [Fn.labD_succ, p92_3]
    simp only [e3]
    rfl
theorem w92 (s92 : Tm → Int → Int → Option (Tm × Bool)) (n : Nat) (x : PTs.den F92.ps) : F92.body (bodyOf Try.f92) tabR tyR true (cs92 s92 n) (F92.labX (bodyOf Try.f92) tabR tyR true (cs92 s92 n) (F92.labM (bodyOf Try.f92) tabR tyR true (cs92 s92 n) n) F92.D) x = o92_0 s92 n (c92_2 s92 n (l92_3 s92 n n)) x.1 x.2.1 x.2.2.1 := by
  have e2 : ∀ t1 t2 t3 t6_0 t6_1 t6_2 t6_3 t21, F92.labX (bodyOf Try.f92) tabR tyR true (cs92 s92 n) (F92.labM (bodyOf Try.f92) tabR tyR true (cs92 s92 n) n) 5 2 (st92_2 t1 t2 t3 t6_0 t6_1 t6_2 t6_3 t21) = c92_2 s92 n (l92_3 s92 n n) t1 t2 t3 t6_0 t6_1 t6_2 t6_3 t21 := fun t1 t2 t3 t6_0 t6_1 t6_2 t6_3 t21 => (Fn.labX_step _ _ _ _ _ _ _ _ _ _ (by kernel_rfl)).trans (n92_2 s92 n (F92.labM (bodyOf Try.f92) tabR tyR true (cs92 s92 n) n) (l92_3 s92 n n) (m92_3 s92 n n) 3 t1 t2 t3 t6_0 t6_1 t6_2 t6_3 t21)
  show F92.body (bodyOf Try.f92) tabR tyR true (cs92 s92 n) (F92.labX (bodyOf Try.f92) tabR tyR true (cs92 s92 n) (F92.labM (bodyOf Try.f92) tabR tyR true (cs92 s92 n) n) 5) x = _
  rw [p92_0]
  simp only [e2]
  try rfl
theorem call92 : Callable Try.prog 92 := callable_of Try.func92 (by kernel_rfl) (by kernel_rfl)
theorem okr92 : ∀ n : Nat, Cal.Ok Try.prog ⟨92, F92.ps, F92.rs, F92.fr, fun a => f92 n a.1 a.2.1 a.2.2.1⟩
  | 0 => ⟨by kernel_rfl, fun a r h => by cases h⟩
  | n + 1 => cal_of_fn F92 (code := bodyOf Try.f92) Try.func92 (by kernel_rfl) (by kernel_rfl) call92 htabR (cs := cs92 (f92 n) n) (fun c hc => by
      simp only [cs92, List.mem_cons, List.not_mem_nil, or_false] at hc
      rcases hc with rfl | rfl
      · exact (okr92 n)
      · exact ok129) (fun _ => mixed) (by kernel_rfl) (by kernel_rfl) (by decide) (fun x => ⟨n, w92 (f92 n) n x⟩)
theorem ok92 (n : Nat) : Cal.Ok Try.prog ⟨92, F92.ps, F92.rs, F92.fr, fun a => f92 n a.1 a.2.1 a.2.2.1⟩ := (okr92 n)
-- tranship/bare.Var
def o143_0 (a0 : Int) : Option Tm :=
  some (Tm.mk (2 : Int) a0 (0 : Int) (0 : Int) ([] : List Tm))
def f143 (a0 : Int) : Option Tm := o143_0 a0
def an143 : An := .z
def F143 : Fn := { f := 143, a := an143, vars := [.cell 2 24], ps := [.sc .int], rs := [.st .tm], own := false, fr := true, nt := 5, D := 2, loops := [] }
def cs143 : List Cal := []
theorem p143_0 (lab : Nat → SS → Option (RT.den F143.rs)) (x : PTs.den F143.ps) : F143.body (bodyOf Try.f143) tabR tyR true cs143 lab x = o143_0 x.1 := by kernel_rfl
theorem w143 (x : PTs.den F143.ps) : F143.body (bodyOf Try.f143) tabR tyR true cs143 (F143.labX (bodyOf Try.f143) tabR tyR true cs143 (F143.labM (bodyOf Try.f143) tabR tyR true cs143 0) F143.D) x = o143_0 x.1 := by
  show F143.body (bodyOf Try.f143) tabR tyR true cs143 (F143.labX (bodyOf Try.f143) tabR tyR true cs143 (F143.labM (bodyOf Try.f143) tabR tyR true cs143 0) 2) x = _
  rw [p143_0]
theorem call143 : Callable Try.prog 143 := callable_of Try.func143 (by kernel_rfl) (by kernel_rfl)
theorem ok143 : Cal.Ok Try.prog ⟨143, F143.ps, F143.rs, F143.fr, fun a => f143 a.1⟩ :=
  cal_of_fn F143 (code := bodyOf Try.f143) Try.func143 (by kernel_rfl) (by kernel_rfl) call143 htabR (cs := cs143) (fun c hc => by simp only [cs143, List.not_mem_nil] at hc) (fun _ => mixed) (by kernel_rfl) (by kernel_rfl) (by decide) (fun x => ⟨0, w143 x⟩)
-- tranship/term.free
def o135_0 (s135 : Tm → Int → Option Int) (n : Nat) (k1 : Int → Tm → Int → (List Tm) → Int → Int → Option Int) (a0 : Tm) (a1 : Int) : Option Int :=
  ifB (decide (a0.kind = (2 : Int))) (
    ckI (a0.i + (1 : Int)) <|
    ckI ((a0.i + (1 : Int)) - a1) <|
    some (max ((a0.i + (1 : Int)) - a1) (0 : Int))) (
    k1 a1 a0 (0 : Int) a0.kids (a0.kids.length : Int) (0 : Int))
def o135_1 (s135 : Tm → Int → Option Int) (n : Nat) (k1 : Int → Tm → Int → (List Tm) → Int → Int → Option Int) (t1 : Int) (t2 : Tm) (t5 : Int) (t18 : List Tm) (t19 : Int) (t20 : Int) : Option Int :=
  ifB (decide (t20 < t19)) (
    atI t18 t20 fun x1 =>
    (f129 t2.kind t20).bind fun x2 =>
    ckI (t1 + x2) <|
    (s135 x1 (t1 + x2)).bind fun x3 =>
    ckI (t20 + (1 : Int)) <|
    k1 t1 t2 (max t5 x3) t18 t19 (t20 + (1 : Int))) (
    some t5)
def l135_1 (s135 : Tm → Int → Option Int) (n : Nat) : Nat → Int → Tm → Int → (List Tm) → Int → Int → Option Int
  | 0, _, _, _, _, _, _ => none
  | m + 1, t1, t2, t5, t18, t19, t20 => o135_1 s135 n (l135_1 s135 n m) t1 t2 t5 t18 t19 t20
def f135 : Nat → Tm → Int → Option Int
  | 0, _, _ => none
  | n + 1, a0, a1 => o135_0 (f135 n) n (l135_1 (f135 n) n n) a0 a1
def an135 : An := (.n none [] 0 .z (.n none [] 0 .z (.n none [] 0 .z (.n none [] 0 (.n none [] 0 .z (.n none [] 0 (.n (some 1) [(1, .one .c), (2, .ps 0 .tm false), (5, .one .c), (18, .one (.d .tm false)), (19, .one .c), (20, .one .c)] 1 .z .z) .z)) .z))))
def F135 : Fn := { f := 135, a := an135, vars := [.tmp 4], ps := [.st .tm, .sc .int], rs := [.sc .int], own := false, fr := true, nt := 37, D := 3, loops := [1] }
def cs135 (s135 : Tm → Int → Option Int) (n : Nat) : List Cal := [⟨129, [.sc .int, .sc .int], [.sc .int], true, fun a => f129 a.1 a.2.1⟩, ⟨135, [.st .tm, .sc .int], [.sc .int], true, fun a => s135 a.1 a.2.1⟩]
def st135_1 (t1 : Int) (t2 : Tm) (t5 : Int) (t18 : List Tm) (t19 : Int) (t20 : Int) : SS := ⟨[(1, .v (.one (.c (.int t1) true))), (2, .v (.one (.ptr 0 0))), (5, .v (.one (.c (.int t5) true))), (18, .v (.one (.c (.sl .tm t18) false))), (19, .v (.one (.c (.int t19) true))), (20, .v (.one (.c (.int t20) true)))], [(0, some (.bst .tm t2 false))], 1⟩
theorem p135_0 (s135 : Tm → Int → Option Int) (n : Nat) (lab : Nat → SS → Option (RT.den F135.rs)) (x : PTs.den F135.ps) : F135.body (bodyOf Try.f135) tabR tyR true (cs135 s135 n) lab x = o135_0 s135 n (fun t1 t2 t5 t18 t19 t20 => lab 1 (st135_1 t1 t2 t5 t18 t19 t20)) x.1 x.2.1 := by kernel_rfl
theorem p135_1 (s135 : Tm → Int → Option Int) (n : Nat) (lab : Nat → SS → Option (RT.den F135.rs)) (t1 : Int) (t2 : Tm) (t5 : Int) (t18 : List Tm) (t19 : Int) (t20 : Int) : F135.at (bodyOf Try.f135) tabR tyR true (cs135 s135 n) lab 1 (st135_1 t1 t2 t5 t18 t19 t20) = o135_1 s135 n (fun t1 t2 t5 t18 t19 t20 => lab 1 (st135_1 t1 t2 t5 t18 t19 t20)) t1 t2 t5 t18 t19 t20 := by kernel_rfl
theorem m135_1 (s135 : Tm → Int → Option Int) (n : Nat) : ∀ m : Nat, (∀ t1 t2 t5 t18 t19 t20, F135.labM (bodyOf Try.f135) tabR tyR true (cs135 s135 n) m 1 (st135_1 t1 t2 t5 t18 t19 t20) = l135_1 s135 n m t1 t2 t5 t18 t19 t20) := by
  intro m
  induction m with
  | zero => exact fun _ _ _ _ _ _ => rfl
  | succ m ih =>
    intro t1 t2 t5 t18 t19 t20
    have e1 : ∀ t1 t2 t5 t18 t19 t20, F135.labX (bodyOf Try.f135) tabR tyR true (cs135 s135 n) (F135.labM (bodyOf Try.f135) tabR tyR true (cs135 s135 n) m) 2 1 (st135_1 t1 t2 t5 t18 t19 t20) = (l135_1 s135 n m) t1 t2 t5 t18 t19 t20 := fun t1 t2 t5 t18 t19 t20 => (Fn.labX_loop _ _ _ _ _ _ _ _ _ _ (by kernel_rfl)).trans (ih t1 t2 t5 t18 t19 t20)
    rw [Fn.labM_succ]
    show F135.labD (bodyOf Try.f135) tabR tyR true (cs135 s135 n) (F135.labM (bodyOf Try.f135) tabR tyR true (cs135 s135 n) m) (2 + 1) 1 _ = _
    rw [Fn.labD_succ, p135_1]
    simp only [e1]
    rfl
theorem w135 (s135 : Tm → Int → Option Int) (n : Nat) (x : PTs.den F135.ps) : F135.body (bodyOf Try.f135) tabR tyR true (cs135 s135 n) (F135.labX (bodyOf Try.f135) tabR tyR true (cs135 s135 n) (F135.labM (bodyOf Try.f135) tabR tyR true (cs135 s135 n) n) F135.D) x = o135_0 s135 n (l135_1 s135 n n) x.1 x.2.1 := by
  have e1 : ∀ t1 t2 t5 t18 t19 t20, F135.labX (bodyOf Try.f135) tabR tyR true (cs135 s135 n) (F135.labM (bodyOf Try.f135) tabR tyR true (cs135 s135 n) n) 3 1 (st135_1 t1 t2 t5 t18 t19 t20) = (l135_1 s135 n n) t1 t2 t5 t18 t19 t20 := fun t1 t2 t5 t18 t19 t20 => (Fn.labX_loop _ _ _ _ _ _ _ _ _ _ (by kernel_rfl)).trans ((m135_1 s135 n n) t1 t2 t5 t18 t19 t20)
  show F135.body (bodyOf Try.f135) tabR tyR true (cs135 s135 n) (F135.labX (bodyOf Try.f135) tabR tyR true (cs135 s135 n) (F135.labM (bodyOf Try.f135) tabR tyR true (cs135 s135 n) n) 3) x = _
  rw [p135_0]
  simp only [e1]
  try rfl
theorem call135 : Callable Try.prog 135 := callable_of Try.func135 (by kernel_rfl) (by kernel_rfl)
theorem okr135 : ∀ n : Nat, Cal.Ok Try.prog ⟨135, F135.ps, F135.rs, F135.fr, fun a => f135 n a.1 a.2.1⟩
  | 0 => ⟨by kernel_rfl, fun a r h => by cases h⟩
  | n + 1 => cal_of_fn F135 (code := bodyOf Try.f135) Try.func135 (by kernel_rfl) (by kernel_rfl) call135 htabR (cs := cs135 (f135 n) n) (fun c hc => by
      simp only [cs135, List.mem_cons, List.not_mem_nil, or_false] at hc
      rcases hc with rfl | rfl
      · exact ok129
      · exact (okr135 n)) (fun _ => mixed) (by kernel_rfl) (by kernel_rfl) (by decide) (fun x => ⟨n, w135 (f135 n) n x⟩)
theorem ok135 (n : Nat) : Cal.Ok Try.prog ⟨135, F135.ps, F135.rs, F135.fr, fun a => f135 n a.1 a.2.1⟩ := (okr135 n)
-- tranship/term.Free
def o99_0 (n : Nat) (a0 : Tm) : Option Int :=
  (f87 n a0).bind fun x1 =>
  ifB (!x1) (
    some (0 : Int)) (
    (f135 n a0 (0 : Int)).bind fun x2 =>
    some x2)
def f99 (n : Nat) (a0 : Tm) : Option Int := o99_0 n a0
def an99 : An := .z
def F99 : Fn := { f := 99, a := an99, vars := [.tmp 2], ps := [.st .tm], rs := [.sc .int], own := false, fr := true, nt := 8, D := 2, loops := [] }
def cs99 (n : Nat) : List Cal := [⟨87, [.st .tm], [.sc .bool], true, fun a => f87 n a.1⟩, ⟨135, [.st .tm, .sc .int], [.sc .int], true, fun a => f135 n a.1 a.2.1⟩]
theorem p99_0 (n : Nat) (lab : Nat → SS → Option (RT.den F99.rs)) (x : PTs.den F99.ps) : F99.body (bodyOf Try.f99) tabR tyR true (cs99 n) lab x = o99_0 n x.1 := by kernel_rfl
theorem w99 (n : Nat) (x : PTs.den F99.ps) : F99.body (bodyOf Try.f99) tabR tyR true (cs99 n) (F99.labX (bodyOf Try.f99) tabR tyR true (cs99 n) (F99.labM (bodyOf Try.f99) tabR tyR true (cs99 n) 0) F99.D) x = o99_0 n x.1 := by
  show F99.body (bodyOf Try.f99) tabR tyR true (cs99 n) (F99.labX (bodyOf Try.f99) tabR tyR true (cs99 n) (F99.labM (bodyOf Try.f99) tabR tyR true (cs99 n) 0) 2) x = _
  rw [p99_0]
theorem call99 : Callable Try.prog 99 := callable_of Try.func99 (by kernel_rfl) (by kernel_rfl)
theorem ok99 (n : Nat) : Cal.Ok Try.prog ⟨99, F99.ps, F99.rs, F99.fr, fun a => f99 n a.1⟩ :=
  cal_of_fn F99 (code := bodyOf Try.f99) Try.func99 (by kernel_rfl) (by kernel_rfl) call99 htabR (cs := cs99 n) (fun c hc => by
      simp only [cs99, List.mem_cons, List.not_mem_nil, or_false] at hc
      rcases hc with rfl | rfl
      · exact ok87 n
      · exact ok135 n) (fun _ => mixed) (by kernel_rfl) (by kernel_rfl) (by decide) (fun x => ⟨0, w99 n x⟩)
-- tranship/transhipref04.free
-- tranship/transhipref04.Free
-- tranship/term.Same
def o104_0 (n : Nat) (a0 : Tm) (a1 : Tm) : Option Bool :=
  (f126 n a0 a1).bind fun x1 =>
  some x1
def f104 (n : Nat) (a0 : Tm) (a1 : Tm) : Option Bool := o104_0 n a0 a1
def an104 : An := .z
def F104 : Fn := { f := 104, a := an104, vars := [.tmp 4], ps := [.st .tm, .st .tm], rs := [.sc .bool], own := false, fr := true, nt := 8, D := 2, loops := [] }
def cs104 (n : Nat) : List Cal := [⟨126, [.st .tm, .st .tm], [.sc .bool], true, fun a => f126 n a.1 a.2.1⟩]
theorem p104_0 (n : Nat) (lab : Nat → SS → Option (RT.den F104.rs)) (x : PTs.den F104.ps) : F104.body (bodyOf Try.f104) tabR tyR true (cs104 n) lab x = o104_0 n x.1 x.2.1 := by kernel_rfl
theorem w104 (n : Nat) (x : PTs.den F104.ps) : F104.body (bodyOf Try.f104) tabR tyR true (cs104 n) (F104.labX (bodyOf Try.f104) tabR tyR true (cs104 n) (F104.labM (bodyOf Try.f104) tabR tyR true (cs104 n) 0) F104.D) x = o104_0 n x.1 x.2.1 := by
  show F104.body (bodyOf Try.f104) tabR tyR true (cs104 n) (F104.labX (bodyOf Try.f104) tabR tyR true (cs104 n) (F104.labM (bodyOf Try.f104) tabR tyR true (cs104 n) 0) 2) x = _
  rw [p104_0]
theorem call104 : Callable Try.prog 104 := callable_of Try.func104 (by kernel_rfl) (by kernel_rfl)
theorem ok104 (n : Nat) : Cal.Ok Try.prog ⟨104, F104.ps, F104.rs, F104.fr, fun a => f104 n a.1 a.2.1⟩ :=
  cal_of_fn F104 (code := bodyOf Try.f104) Try.func104 (by kernel_rfl) (by kernel_rfl) call104 htabR (cs := cs104 n) (fun c hc => by
      simp only [cs104, List.mem_cons, List.not_mem_nil, or_false] at hc
      rcases hc with rfl
      · exact ok126 n) (fun _ => mixed) (by kernel_rfl) (by kernel_rfl) (by decide) (fun x => ⟨0, w104 n x⟩)
-- tranship/term.moved
def o154_0 (s154 : Tm → Option Bool) (n : Nat) (k1 : (List Tm) → Int → Int → Option Bool) (a0 : Tm) : Option Bool :=
  ifB (decide (a0.kind = (12 : Int))) (
    some true) (
    k1 a0.kids (a0.kids.length : Int) (0 : Int))
def o154_1 (s154 : Tm → Option Bool) (n : Nat) (k1 : (List Tm) → Int → Int → Option Bool) (t9 : List Tm) (t10 : Int) (t11 : Int) : Option Bool :=
  ifB (decide (t11 < t10)) (
    atI t9 t11 fun x1 =>
    (s154 x1).bind fun x2 =>
    ifB x2 (
      some true) (
      ckI (t11 + (1 : Int)) <|
      k1 t9 t10 (t11 + (1 : Int)))) (
    some false)
def l154_1 (s154 : Tm → Option Bool) (n : Nat) : Nat → (List Tm) → Int → Int → Option Bool
  | 0, _, _, _ => none
  | m + 1, t9, t10, t11 => o154_1 s154 n (l154_1 s154 n m) t9 t10 t11
def f154 : Nat → Tm → Option Bool
  | 0, _ => none
  | n + 1, a0 => o154_0 (f154 n) n (l154_1 (f154 n) n n) a0
def an154 : An := (.n none [] 0 .z (.n none [] 0 .z (.n none [] 0 (.n none [] 0 .z (.n none [] 0 (.n (some 1) [(9, .one (.d .tm false)), (10, .one .c), (11, .one .c)] 0 .z .z) .z)) .z)))
def F154 : Fn := { f := 154, a := an154, vars := [.tmp 2], ps := [.st .tm], rs := [.sc .bool], own := false, fr := true, nt := 18, D := 3, loops := [1] }
def cs154 (s154 : Tm → Option Bool) (n : Nat) : List Cal := [⟨154, [.st .tm], [.sc .bool], true, fun a => s154 a.1⟩]
def st154_1 (t9 : List Tm) (t10 : Int) (t11 : Int) : SS := ⟨[(9, .v (.one (.c (.sl .tm t9) false))), (10, .v (.one (.c (.int t10) true))), (11, .v (.one (.c (.int t11) true)))], [], 0⟩
theorem p154_0 (s154 : Tm → Option Bool) (n : Nat) (lab : Nat → SS → Option (RT.den F154.rs)) (x : PTs.den F154.ps) : F154.body (bodyOf Try.f154) tabR tyR true (cs154 s154 n) lab x = o154_0 s154 n (fun t9 t10 t11 => lab 1 (st154_1 t9 t10 t11)) x.1 := by kernel_rfl
theorem p154_1 (s154 : Tm → Option Bool) (n : Nat) (lab : Nat → SS → Option (RT.den F154.rs)) (t9 : List Tm) (t10 : Int) (t11 : Int) : F154.at (bodyOf Try.f154) tabR tyR true (cs154 s154 n) lab 1 (st154_1 t9 t10 t11) = o154_1 s154 n (fun t9 t10 t11 => lab 1 (st154_1 t9 t10 t11)) t9 t10 t11 := by kernel_rfl
theorem m154_1 (s154 : Tm → Option Bool) (n : Nat) : ∀ m : Nat, (∀ t9 t10 t11, F154.labM (bodyOf Try.f154) tabR tyR true (cs154 s154 n) m 1 (st154_1 t9 t10 t11) = l154_1 s154 n m t9 t10 t11) := by
  intro m
  induction m with
  | zero => exact fun _ _ _ => rfl
  | succ m ih =>
    intro t9 t10 t11
    have e1 : ∀ t9 t10 t11, F154.labX (bodyOf Try.f154) tabR tyR true (cs154 s154 n) (F154.labM (bodyOf Try.f154) tabR tyR true (cs154 s154 n) m) 2 1 (st154_1 t9 t10 t11) = (l154_1 s154 n m) t9 t10 t11 := fun t9 t10 t11 => (Fn.labX_loop _ _ _ _ _ _ _ _ _ _ (by kernel_rfl)).trans (ih t9 t10 t11)
    rw [Fn.labM_succ]
    show F154.labD (bodyOf Try.f154) tabR tyR true (cs154 s154 n) (F154.labM (bodyOf Try.f154) tabR tyR true (cs154 s154 n) m) (2 + 1) 1 _ = _
    rw [Fn.labD_succ, p154_1]
    simp only [e1]
    rfl
theorem w154 (s154 : Tm → Option Bool) (n : Nat) (x : PTs.den F154.ps) : F154.body (bodyOf Try.f154) tabR tyR true (cs154 s154 n) (F154.labX (bodyOf Try.f154) tabR tyR true (cs154 s154 n) (F154.labM (bodyOf Try.f154) tabR tyR true (cs154 s154 n) n) F154.D) x = o154_0 s154 n (l154_1 s154 n n) x.1 := by
  have e1 : ∀ t9 t10 t11, F154.labX (bodyOf Try.f154) tabR tyR true (cs154 s154 n) (F154.labM (bodyOf Try.f154) tabR tyR true (cs154 s154 n) n) 3 1 (st154_1 t9 t10 t11) = (l154_1 s154 n n) t9 t10 t11 := fun t9 t10 t11 => (Fn.labX_loop _ _ _ _ _ _ _ _ _ _ (by kernel_rfl)).trans ((m154_1 s154 n n) t9 t10 t11)
  show F154.body (bodyOf Try.f154) tabR tyR true (cs154 s154 n) (F154.labX (bodyOf Try.f154) tabR tyR true (cs154 s154 n) (F154.labM (bodyOf Try.f154) tabR tyR true (cs154 s154 n) n) 3) x = _
  rw [p154_0]
  simp only [e1]
  try rfl
theorem call154 : Callable Try.prog 154 := callable_of Try.func154 (by kernel_rfl) (by kernel_rfl)
theorem okr154 : ∀ n : Nat, Cal.Ok Try.prog ⟨154, F154.ps, F154.rs, F154.fr, fun a => f154 n a.1⟩
  | 0 => ⟨by kernel_rfl, fun a r h => by cases h⟩
  | n + 1 => cal_of_fn F154 (code := bodyOf Try.f154) Try.func154 (by kernel_rfl) (by kernel_rfl) call154 htabR (cs := cs154 (f154 n) n) (fun c hc => by
      simp only [cs154, List.mem_cons, List.not_mem_nil, or_false] at hc
      rcases hc with rfl
      · exact (okr154 n)) (fun _ => mixed) (by kernel_rfl) (by kernel_rfl) (by decide) (fun x => ⟨n, w154 (f154 n) n x⟩)
theorem ok154 (n : Nat) : Cal.Ok Try.prog ⟨154, F154.ps, F154.rs, F154.fr, fun a => f154 n a.1⟩ := (okr154 n)
-- tranship/term.Pure
def o136_0 (n : Nat) (a0 : Tm) : Option Bool :=
  (f79 n a0).bind fun x1 =>
  ifB x1 (
    (f154 n a0).bind fun x2 =>
    some (!x2)) (
    some false)
def f136 (n : Nat) (a0 : Tm) : Option Bool := o136_0 n a0
def an136 : An := .z
def F136 : Fn := { f := 136, a := an136, vars := [.tmp 2], ps := [.st .tm], rs := [.sc .bool], own := false, fr := true, nt := 10, D := 2, loops := [] }
def cs136 (n : Nat) : List Cal := [⟨79, [.st .tm], [.sc .bool], true, fun a => f79 n a.1⟩, ⟨154, [.st .tm], [.sc .bool], true, fun a => f154 n a.1⟩]
theorem p136_0 (n : Nat) (lab : Nat → SS → Option (RT.den F136.rs)) (x : PTs.den F136.ps) : F136.body (bodyOf Try.f136) tabR tyR true (cs136 n) lab x = o136_0 n x.1 := by kernel_rfl
theorem w136 (n : Nat) (x : PTs.den F136.ps) : F136.body (bodyOf Try.f136) tabR tyR true (cs136 n) (F136.labX (bodyOf Try.f136) tabR tyR true (cs136 n) (F136.labM (bodyOf Try.f136) tabR tyR true (cs136 n) 0) F136.D) x = o136_0 n x.1 := by
  show F136.body (bodyOf Try.f136) tabR tyR true (cs136 n) (F136.labX (bodyOf Try.f136) tabR tyR true (cs136 n) (F136.labM (bodyOf Try.f136) tabR tyR true (cs136 n) 0) 2) x = _
  rw [p136_0]
theorem call136 : Callable Try.prog 136 := callable_of Try.func136 (by kernel_rfl) (by kernel_rfl)
theorem ok136 (n : Nat) : Cal.Ok Try.prog ⟨136, F136.ps, F136.rs, F136.fr, fun a => f136 n a.1⟩ :=
  cal_of_fn F136 (code := bodyOf Try.f136) Try.func136 (by kernel_rfl) (by kernel_rfl) call136 htabR (cs := cs136 n) (fun c hc => by
      simp only [cs136, List.mem_cons, List.not_mem_nil, or_false] at hc
      rcases hc with rfl | rfl
      · exact ok79 n
      · exact ok154 n) (fun _ => mixed) (by kernel_rfl) (by kernel_rfl) (by decide) (fun x => ⟨0, w136 n x⟩)
-- tranship/transhipref04.Pure
-- tranship/transhipref04.Same
-- tranship/bare.Sort
def o142_0 (a0 : Int) : Option Tm :=
  some (Tm.mk (1 : Int) a0 (0 : Int) (0 : Int) ([] : List Tm))
def f142 (a0 : Int) : Option Tm := o142_0 a0
def an142 : An := .z
def F142 : Fn := { f := 142, a := an142, vars := [.cell 2 24], ps := [.sc .int], rs := [.st .tm], own := false, fr := true, nt := 5, D := 2, loops := [] }
def cs142 : List Cal := []
theorem p142_0 (lab : Nat → SS → Option (RT.den F142.rs)) (x : PTs.den F142.ps) : F142.body (bodyOf Try.f142) tabR tyR true cs142 lab x = o142_0 x.1 := by kernel_rfl
theorem w142 (x : PTs.den F142.ps) : F142.body (bodyOf Try.f142) tabR tyR true cs142 (F142.labX (bodyOf Try.f142) tabR tyR true cs142 (F142.labM (bodyOf Try.f142) tabR tyR true cs142 0) F142.D) x = o142_0 x.1 := by
  show F142.body (bodyOf Try.f142) tabR tyR true cs142 (F142.labX (bodyOf Try.f142) tabR tyR true cs142 (F142.labM (bodyOf Try.f142) tabR tyR true cs142 0) 2) x = _
  rw [p142_0]
theorem call142 : Callable Try.prog 142 := callable_of Try.func142 (by kernel_rfl) (by kernel_rfl)
theorem ok142 : Cal.Ok Try.prog ⟨142, F142.ps, F142.rs, F142.fr, fun a => f142 a.1⟩ :=
  cal_of_fn F142 (code := bodyOf Try.f142) Try.func142 (by kernel_rfl) (by kernel_rfl) call142 htabR (cs := cs142) (fun c hc => by simp only [cs142, List.not_mem_nil] at hc) (fun _ => mixed) (by kernel_rfl) (by kernel_rfl) (by decide) (fun x => ⟨0, w142 x⟩)
-- tranship/term.Size
def o147_0 (s147 : Tm → Option Int) (n : Nat) (k1 : Int → (List Tm) → Int → Int → Option Int) (a0 : Tm) : Option Int :=
  k1 (1 : Int) a0.kids (a0.kids.length : Int) (0 : Int)
def o147_1 (s147 : Tm → Option Int) (n : Nat) (k1 : Int → (List Tm) → Int → Int → Option Int) (t3 : Int) (t7 : List Tm) (t8 : Int) (t9 : Int) : Option Int :=
  ifB (decide (t9 < t8)) (
    atI t7 t9 fun x1 =>
    (s147 x1).bind fun x2 =>
    ckI (t3 + x2) <|
    ckI (t9 + (1 : Int)) <|
    k1 (t3 + x2) t7 t8 (t9 + (1 : Int))) (
    some t3)
def l147_1 (s147 : Tm → Option Int) (n : Nat) : Nat → Int → (List Tm) → Int → Int → Option Int
  | 0, _, _, _, _ => none
  | m + 1, t3, t7, t8, t9 => o147_1 s147 n (l147_1 s147 n m) t3 t7 t8 t9
def f147 : Nat → Tm → Option Int
  | 0, _ => none
  | n + 1, a0 => o147_0 (f147 n) n (l147_1 (f147 n) n n) a0
def an147 : An := (.n none [] 0 .z (.n none [] 0 .z (.n none [] 0 (.n none [] 0 .z (.n none [] 0 (.n (some 1) [(3, .one .c), (7, .one (.d .tm false)), (8, .one .c), (9, .one .c)] 0 .z .z) .z)) .z)))
def F147 : Fn := { f := 147, a := an147, vars := [.tmp 2], ps := [.st .tm], rs := [.sc .int], own := false, fr := true, nt := 19, D := 3, loops := [1] }
def cs147 (s147 : Tm → Option Int) (n : Nat) : List Cal := [⟨147, [.st .tm], [.sc .int], true, fun a => s147 a.1⟩]
def st147_1 (t3 : Int) (t7 : List Tm) (t8 : Int) (t9 : Int) : SS := ⟨[(3, .v (.one (.c (.int t3) true))), (7, .v (.one (.c (.sl .tm t7) false))), (8, .v (.one (.c (.int t8) true))), (9, .v (.one (.c (.int t9) true)))], [], 0⟩
theorem p147_0 (s147 : Tm → Option Int) (n : Nat) (lab : Nat → SS → Option (RT.den F147.rs)) (x : PTs.den F147.ps) : F147.body (bodyOf Try.f147) tabR tyR true (cs147 s147 n) lab x = o147_0 s147 n (fun t3 t7 t8 t9 => lab 1 (st147_1 t3 t7 t8 t9)) x.1 := by kernel_rfl
theorem p147_1 (s147 : Tm → Option Int) (n : Nat) (lab : Nat → SS → Option (RT.den F147.rs)) (t3 : Int) (t7 : List Tm) (t8 : Int) (t9 : Int) : F147.at (bodyOf Try.f147) tabR tyR true (cs147 s147 n) lab 1 (st147_1 t3 t7 t8 t9) = o147_1 s147 n (fun t3 t7 t8 t9 => lab 1 (st147_1 t3 t7 t8 t9)) t3 t7 t8 t9 := by kernel_rfl
theorem m147_1 (s147 : Tm → Option Int) (n : Nat) : ∀ m : Nat, (∀ t3 t7 t8 t9, F147.labM (bodyOf Try.f147) tabR tyR true (cs147 s147 n) m 1 (st147_1 t3 t7 t8 t9) = l147_1 s147 n m t3 t7 t8 t9) := by
  intro m
  induction m with
  | zero => exact fun _ _ _ _ => rfl
  | succ m ih =>
    intro t3 t7 t8 t9
    have e1 : ∀ t3 t7 t8 t9, F147.labX (bodyOf Try.f147) tabR tyR true (cs147 s147 n) (F147.labM (bodyOf Try.f147) tabR tyR true (cs147 s147 n) m) 2 1 (st147_1 t3 t7 t8 t9) = (l147_1 s147 n m) t3 t7 t8 t9 := fun t3 t7 t8 t9 => (Fn.labX_loop _ _ _ _ _ _ _ _ _ _ (by kernel_rfl)).trans (ih t3 t7 t8 t9)
    rw [Fn.labM_succ]
    show F147.labD (bodyOf Try.f147) tabR tyR true (cs147 s147 n) (F147.labM (bodyOf Try.f147) tabR tyR true (cs147 s147 n) m) (2 + 1) 1 _ = _
    rw [Fn.labD_succ, p147_1]
    simp only [e1]
    rfl
theorem w147 (s147 : Tm → Option Int) (n : Nat) (x : PTs.den F147.ps) : F147.body (bodyOf Try.f147) tabR tyR true (cs147 s147 n) (F147.labX (bodyOf Try.f147) tabR tyR true (cs147 s147 n) (F147.labM (bodyOf Try.f147) tabR tyR true (cs147 s147 n) n) F147.D) x = o147_0 s147 n (l147_1 s147 n n) x.1 := by
  have e1 : ∀ t3 t7 t8 t9, F147.labX (bodyOf Try.f147) tabR tyR true (cs147 s147 n) (F147.labM (bodyOf Try.f147) tabR tyR true (cs147 s147 n) n) 3 1 (st147_1 t3 t7 t8 t9) = (l147_1 s147 n n) t3 t7 t8 t9 := fun t3 t7 t8 t9 => (Fn.labX_loop _ _ _ _ _ _ _ _ _ _ (by kernel_rfl)).trans ((m147_1 s147 n n) t3 t7 t8 t9)
  show F147.body (bodyOf Try.f147) tabR tyR true (cs147 s147 n) (F147.labX (bodyOf Try.f147) tabR tyR true (cs147 s147 n) (F147.labM (bodyOf Try.f147) tabR tyR true (cs147 s147 n) n) 3) x = _
  rw [p147_0]
  simp only [e1]
  try rfl
theorem call147 : Callable Try.prog 147 := callable_of Try.func147 (by kernel_rfl) (by kernel_rfl)
theorem okr147 : ∀ n : Nat, Cal.Ok Try.prog ⟨147, F147.ps, F147.rs, F147.fr, fun a => f147 n a.1⟩
  | 0 => ⟨by kernel_rfl, fun a r h => by cases h⟩
  | n + 1 => cal_of_fn F147 (code := bodyOf Try.f147) Try.func147 (by kernel_rfl) (by kernel_rfl) call147 htabR (cs := cs147 (f147 n) n) (fun c hc => by
      simp only [cs147, List.mem_cons, List.not_mem_nil, or_false] at hc
      rcases hc with rfl
      · exact (okr147 n)) (fun _ => mixed) (by kernel_rfl) (by kernel_rfl) (by decide) (fun x => ⟨n, w147 (f147 n) n x⟩)
theorem ok147 (n : Nat) : Cal.Ok Try.prog ⟨147, F147.ps, F147.rs, F147.fr, fun a => f147 n a.1⟩ := (okr147 n)
end Go.Proofs.Ytcaahmielncmpaa
