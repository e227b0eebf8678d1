/-
  What the functions on derivations compute, as plain functions.
-/
import Derived.Test.YtcaahmielncmpaaTypedB
set_option linter.unusedSimpArgs false
set_option linter.unusedVariables false
namespace Go.Proofs.Ytcaahmielncmpaa
open Go Go.RowKit
set_option maxRecDepth 100000
-- tranship/deriv.Kids
def o106_0 (k1 : Int → Bool → Option Int) (a0 : Int) : Option Int :=
  ifB (decide (a0 = (1 : Int))) (
    k1 a0 (decide (a0 = (1 : Int)))) (
    k1 a0 (decide (a0 = (2 : Int))))
def o106_1 (k2 : Int → Bool → Option Int) (t3 : Int) (t4 : Bool) : Option Int :=
  ifB t4 (
    some (0 : Int)) (
    ifB (decide (t3 = (8 : Int))) (
      k2 t3 (decide (t3 = (8 : Int)))) (
      ifB (decide (t3 = (9 : Int))) (
        k2 t3 (decide (t3 = (9 : Int)))) (
        ifB (decide (t3 = (21 : Int))) (
          k2 t3 (decide (t3 = (21 : Int)))) (
          ifB (decide (t3 = (22 : Int))) (
            k2 t3 (decide (t3 = (22 : Int)))) (
            ifB (decide (t3 = (17 : Int))) (
              k2 t3 (decide (t3 = (17 : Int)))) (
              ifB (decide (t3 = (11 : Int))) (
                k2 t3 (decide (t3 = (11 : Int)))) (
                ifB (decide (t3 = (13 : Int))) (
                  k2 t3 (decide (t3 = (13 : Int)))) (
                  k2 t3 (decide (t3 = (14 : Int)))))))))))
def o106_2 (k3 : Int → Bool → Option Int) (t3 : Int) (t7 : Bool) : Option Int :=
  ifB t7 (
    some (1 : Int)) (
    ifB (decide (t3 = (3 : Int))) (
      k3 t3 (decide (t3 = (3 : Int)))) (
      ifB (decide (t3 = (6 : Int))) (
        k3 t3 (decide (t3 = (6 : Int)))) (
        ifB (decide (t3 = (4 : Int))) (
          k3 t3 (decide (t3 = (4 : Int)))) (
          ifB (decide (t3 = (5 : Int))) (
            k3 t3 (decide (t3 = (5 : Int)))) (
            ifB (decide (t3 = (10 : Int))) (
              k3 t3 (decide (t3 = (10 : Int)))) (
              ifB (decide (t3 = (12 : Int))) (
                k3 t3 (decide (t3 = (12 : Int)))) (
                ifB (decide (t3 = (15 : Int))) (
                  k3 t3 (decide (t3 = (15 : Int)))) (
                  ifB (decide (t3 = (16 : Int))) (
                    k3 t3 (decide (t3 = (16 : Int)))) (
                    ifB (decide (t3 = (24 : Int))) (
                      k3 t3 (decide (t3 = (24 : Int)))) (
                      ifB (decide (t3 = (18 : Int))) (
                        k3 t3 (decide (t3 = (18 : Int)))) (
                        ifB (decide (t3 = (23 : Int))) (
                          k3 t3 (decide (t3 = (23 : Int)))) (
                          ifB (decide (t3 = (25 : Int))) (
                            k3 t3 (decide (t3 = (25 : Int)))) (
                            k3 t3 (decide (t3 = (26 : Int))))))))))))))))
def o106_3 (t3 : Int) (t16 : Bool) : Option Int :=
  ifB t16 (
    some (2 : Int)) (
    ifB (decide (t3 = (7 : Int))) (
      ifB (decide (t3 = (7 : Int))) (
        some (3 : Int)) (
        ifB (decide (t3 = (28 : Int))) (
          some (4 : Int)) (
          some (-1 : Int)))) (
      ifB (decide (t3 = (19 : Int))) (
        ifB (decide (t3 = (19 : Int))) (
          some (3 : Int)) (
          ifB (decide (t3 = (28 : Int))) (
            some (4 : Int)) (
            some (-1 : Int)))) (
        ifB (decide (t3 = (20 : Int))) (
          ifB (decide (t3 = (20 : Int))) (
            some (3 : Int)) (
            ifB (decide (t3 = (28 : Int))) (
              some (4 : Int)) (
              some (-1 : Int)))) (
          ifB (decide (t3 = (27 : Int))) (
            some (3 : Int)) (
            ifB (decide (t3 = (28 : Int))) (
              some (4 : Int)) (
              some (-1 : Int)))))))
def c106_3 (t3 : Int) (t16 : Bool) : Option Int :=
  o106_3 t3 t16
def c106_2 (t3 : Int) (t7 : Bool) : Option Int :=
  o106_2 (c106_3) t3 t7
def c106_1 (t3 : Int) (t4 : Bool) : Option Int :=
  o106_1 (c106_2) t3 t4
def f106 (a0 : Int) : Option Int := o106_0 (c106_1) a0
def an106 : An := (.n none [] 0 .z (.n none [] 0 (.n none [] 0 .z (.n none [] 0 (.n (some 1) [(3, .one .c), (4, .one .c)] 0 .z (.n none [] 0 .z (.n (some 2) [(3, .one .c), (7, .one .c)] 0 .z (.n none [] 0 .z (.n (some 3) [(3, .one .c), (16, .one .c)] 0 .z .z))))) .z)) .z))
def F106 : Fn := { f := 106, a := an106, vars := [.tmp 2], ps := [.sc .int], rs := [.sc .int], own := false, fr := true, nt := 37, D := 5, loops := [] }
def cs106 : List Cal := []
def st106_1 (t3 : Int) (t4 : Bool) : SS := ⟨[(3, .v (.one (.c (.int t3) true))), (4, .v (.one (.c (.bool t4) true)))], [], 0⟩
def st106_2 (t3 : Int) (t7 : Bool) : SS := ⟨[(3, .v (.one (.c (.int t3) true))), (7, .v (.one (.c (.bool t7) true)))], [], 0⟩
def st106_3 (t3 : Int) (t16 : Bool) : SS := ⟨[(3, .v (.one (.c (.int t3) true))), (16, .v (.one (.c (.bool t16) true)))], [], 0⟩
theorem p106_0 (lab : Nat → SS → Option (RT.den F106.rs)) (x : PTs.den F106.ps) : F106.body (bodyOf Try.f106) tabR tyR true cs106 lab x = o106_0 (fun t3 t4 => lab 1 (st106_1 t3 t4)) x.1 := by kernel_rfl
theorem p106_1 (lab : Nat → SS → Option (RT.den F106.rs)) (t3 : Int) (t4 : Bool) : F106.at (bodyOf Try.f106) tabR tyR true cs106 lab 1 (st106_1 t3 t4) = o106_1 (fun t3 t7 => lab 2 (st106_2 t3 t7)) t3 t4 := by kernel_rfl
theorem p106_2 (lab : Nat → SS → Option (RT.den F106.rs)) (t3 : Int) (t7 : Bool) : F106.at (bodyOf Try.f106) tabR tyR true cs106 lab 2 (st106_2 t3 t7) = o106_2 (fun t3 t16 => lab 3 (st106_3 t3 t16)) t3 t7 := by kernel_rfl
theorem p106_3 (lab : Nat → SS → Option (RT.den F106.rs)) (t3 : Int) (t16 : Bool) : F106.at (bodyOf Try.f106) tabR tyR true cs106 lab 3 (st106_3 t3 t16) = o106_3 t3 t16 := by kernel_rfl
theorem n106_3 (rec : Nat → SS → Option (RT.den F106.rs)) (d : Nat) (t3 : Int) (t16 : Bool) : F106.labD (bodyOf Try.f106) tabR tyR true cs106 rec (d + 1) 3 (st106_3 t3 t16) = c106_3 t3 t16 := by
  show F106.labD (bodyOf Try.f106) tabR tyR true cs106 rec (d + 1) 3 _ = _
  rw [Fn.labD_succ, p106_3]
  rfl
theorem n106_2 (rec : Nat → SS → Option (RT.den F106.rs)) (d : Nat) (t3 : Int) (t7 : Bool) : F106.labD (bodyOf Try.f106) tabR tyR true cs106 rec (d + 2) 2 (st106_2 t3 t7) = c106_2 t3 t7 := by
  have e3 : ∀ t3 t16, F106.labX (bodyOf Try.f106) tabR tyR true cs106 rec (d + 1) 3 (st106_3 t3 t16) = c106_3 t3 t16 := fun t3 t16 => (Fn.labX_step _ _ _ _ _ _ _ _ _ _ (by kernel_rfl)).trans (n106_3 rec d t3 t16)
  show F106.labD (bodyOf Try.f106) tabR tyR true cs106 rec ((d + 1) + 1) 2 _ = _
  rw [Fn.labD_succ, p106_2]
  simp only [e3]
  rfl
theorem n106_1 (rec : Nat → SS → Option (RT.den F106.rs)) (d : Nat) (t3 : Int) (t4 : Bool) : F106.labD (bodyOf Try.f106) tabR tyR true cs106 rec (d + 3) 1 (st106_1 t3 t4) = c106_1 t3 t4 := by
  have e2 : ∀ t3 t7, F106.labX (bodyOf Try.f106) tabR tyR true cs106 rec (d + 2) 2 (st106_2 t3 t7) = c106_2 t3 t7 := fun t3 t7 => (Fn.labX_step _ _ _ _ _ _ _ _ _ _ (by kernel_rfl)).trans (n106_2 rec d t3 t7)
  show F106.labD (bodyOf Try.f106) tabR tyR true cs106 rec ((d + 2) + 1) 1 _ = _
  rw [Fn.labD_succ, p106_1]
  simp only [e2]
  rfl
theorem w106 (x : PTs.den F106.ps) : F106.body (bodyOf Try.f106) tabR tyR true cs106 (F106.labX (bodyOf Try.f106) tabR tyR true cs106 (F106.labM (bodyOf Try.f106) tabR tyR true cs106 0) F106.D) x = o106_0 (c106_1) x.1 := by
  have e1 : ∀ t3 t4, F106.labX (bodyOf Try.f106) tabR tyR true cs106 (F106.labM (bodyOf Try.f106) tabR tyR true cs106 0) 5 1 (st106_1 t3 t4) = c106_1 t3 t4 := fun t3 t4 => (Fn.labX_step _ _ _ _ _ _ _ _ _ _ (by kernel_rfl)).trans (n106_1 (F106.labM (bodyOf Try.f106) tabR tyR true cs106 0) 2 t3 t4)
  show F106.body (bodyOf Try.f106) tabR tyR true cs106 (F106.labX (bodyOf Try.f106) tabR tyR true cs106 (F106.labM (bodyOf Try.f106) tabR tyR true cs106 0) 5) x = _
  rw [p106_0]
  simp only [e1]
  try rfl
theorem call106 : Callable Try.prog 106 := callable_of Try.func106 (by kernel_rfl) (by kernel_rfl)
theorem ok106 : Cal.Ok Try.prog ⟨106, F106.ps, F106.rs, F106.fr, fun a => f106 a.1⟩ :=
  cal_of_fn F106 (code := bodyOf Try.f106) Try.func106 (by kernel_rfl) (by kernel_rfl) call106 htabR (cs := cs106) (fun c hc => by simp only [cs106, List.not_mem_nil] at hc) (fun _ => mixed) (by kernel_rfl) (by kernel_rfl) (by decide) (fun x => ⟨0, w106 x⟩)
-- tranship/deriv.Inner
def o107_0 (k1 : Int → Int → Bool → Option Bool) (a0 : Int) (a1 : Int) : Option Bool :=
  ifB (decide (a0 = (3 : Int))) (
    k1 a1 a0 (decide (a0 = (3 : Int)))) (
    ifB (decide (a0 = (6 : Int))) (
      k1 a1 a0 (decide (a0 = (6 : Int)))) (
      ifB (decide (a0 = (4 : Int))) (
        k1 a1 a0 (decide (a0 = (4 : Int)))) (
        ifB (decide (a0 = (7 : Int))) (
          k1 a1 a0 (decide (a0 = (7 : Int)))) (
          ifB (decide (a0 = (19 : Int))) (
            k1 a1 a0 (decide (a0 = (19 : Int)))) (
            ifB (decide (a0 = (20 : Int))) (
              k1 a1 a0 (decide (a0 = (20 : Int)))) (
              ifB (decide (a0 = (18 : Int))) (
                k1 a1 a0 (decide (a0 = (18 : Int)))) (
                ifB (decide (a0 = (23 : Int))) (
                  k1 a1 a0 (decide (a0 = (23 : Int)))) (
                  ifB (decide (a0 = (25 : Int))) (
                    k1 a1 a0 (decide (a0 = (25 : Int)))) (
                    ifB (decide (a0 = (26 : Int))) (
                      k1 a1 a0 (decide (a0 = (26 : Int)))) (
                      k1 a1 a0 (decide (a0 = (28 : Int)))))))))))))
def o107_1 (t1 : Int) (t5 : Int) (t6 : Bool) : Option Bool :=
  ifB t6 (
    some (decide (t1 = (1 : Int)))) (
    ifB (decide (t5 = (27 : Int))) (
      ifB (decide (t1 = (1 : Int))) (
        some true) (
        some (decide (t1 = (2 : Int))))) (
      some false))
def c107_1 (t1 : Int) (t5 : Int) (t6 : Bool) : Option Bool :=
  o107_1 t1 t5 t6
def f107 (a0 : Int) (a1 : Int) : Option Bool := o107_0 (c107_1) a0 a1
def an107 : An := (.n none [] 0 .z (.n none [] 0 (.n none [] 0 .z (.n none [] 0 (.n (some 1) [(1, .one .c), (5, .one .c), (6, .one .c)] 0 .z .z) .z)) .z))
def F107 : Fn := { f := 107, a := an107, vars := [.tmp 4], ps := [.sc .int, .sc .int], rs := [.sc .bool], own := false, fr := true, nt := 28, D := 3, loops := [] }
def cs107 : List Cal := []
def st107_1 (t1 : Int) (t5 : Int) (t6 : Bool) : SS := ⟨[(1, .v (.one (.c (.int t1) true))), (5, .v (.one (.c (.int t5) true))), (6, .v (.one (.c (.bool t6) true)))], [], 0⟩
theorem p107_0 (lab : Nat → SS → Option (RT.den F107.rs)) (x : PTs.den F107.ps) : F107.body (bodyOf Try.f107) tabR tyR true cs107 lab x = o107_0 (fun t1 t5 t6 => lab 1 (st107_1 t1 t5 t6)) x.1 x.2.1 := by kernel_rfl
theorem p107_1 (lab : Nat → SS → Option (RT.den F107.rs)) (t1 : Int) (t5 : Int) (t6 : Bool) : F107.at (bodyOf Try.f107) tabR tyR true cs107 lab 1 (st107_1 t1 t5 t6) = o107_1 t1 t5 t6 := by kernel_rfl
theorem n107_1 (rec : Nat → SS → Option (RT.den F107.rs)) (d : Nat) (t1 : Int) (t5 : Int) (t6 : Bool) : F107.labD (bodyOf Try.f107) tabR tyR true cs107 rec (d + 1) 1 (st107_1 t1 t5 t6) = c107_1 t1 t5 t6 := by
  show F107.labD (bodyOf Try.f107) tabR tyR true cs107 rec (d + 1) 1 _ = _
  rw [Fn.labD_succ, p107_1]
  rfl
theorem w107 (x : PTs.den F107.ps) : F107.body (bodyOf Try.f107) tabR tyR true cs107 (F107.labX (bodyOf Try.f107) tabR tyR true cs107 (F107.labM (bodyOf Try.f107) tabR tyR true cs107 0) F107.D) x = o107_0 (c107_1) x.1 x.2.1 := by
  have e1 : ∀ t1 t5 t6, F107.labX (bodyOf Try.f107) tabR tyR true cs107 (F107.labM (bodyOf Try.f107) tabR tyR true cs107 0) 3 1 (st107_1 t1 t5 t6) = c107_1 t1 t5 t6 := fun t1 t5 t6 => (Fn.labX_step _ _ _ _ _ _ _ _ _ _ (by kernel_rfl)).trans (n107_1 (F107.labM (bodyOf Try.f107) tabR tyR true cs107 0) 2 t1 t5 t6)
  show F107.body (bodyOf Try.f107) tabR tyR true cs107 (F107.labX (bodyOf Try.f107) tabR tyR true cs107 (F107.labM (bodyOf Try.f107) tabR tyR true cs107 0) 3) x = _
  rw [p107_0]
  simp only [e1]
  try rfl
theorem call107 : Callable Try.prog 107 := callable_of Try.func107 (by kernel_rfl) (by kernel_rfl)
theorem ok107 : Cal.Ok Try.prog ⟨107, F107.ps, F107.rs, F107.fr, fun a => f107 a.1 a.2.1⟩ :=
  cal_of_fn F107 (code := bodyOf Try.f107) Try.func107 (by kernel_rfl) (by kernel_rfl) call107 htabR (cs := cs107) (fun c hc => by simp only [cs107, List.not_mem_nil] at hc) (fun _ => mixed) (by kernel_rfl) (by kernel_rfl) (by decide) (fun x => ⟨0, w107 x⟩)
-- tranship/transhipref11.Kids
-- tranship/transhipref11.Inner
-- tranship/deriv.Equal
def o144_0 (a0 : Int) : Option Bool :=
  ifB (decide ((13 : Int) ≤ a0)) (
    some (decide (a0 ≤ (28 : Int)))) (
    some false)
def f144 (a0 : Int) : Option Bool := o144_0 a0
def an144 : An := .z
def F144 : Fn := { f := 144, a := an144, vars := [.tmp 2], ps := [.sc .int], rs := [.sc .bool], own := false, fr := true, nt := 9, D := 2, loops := [] }
def cs144 : List Cal := []
theorem p144_0 (lab : Nat → SS → Option (RT.den F144.rs)) (x : PTs.den F144.ps) : F144.body (bodyOf Try.f144) tabR tyR true cs144 lab x = o144_0 x.1 := by kernel_rfl
theorem w144 (x : PTs.den F144.ps) : F144.body (bodyOf Try.f144) tabR tyR true cs144 (F144.labX (bodyOf Try.f144) tabR tyR true cs144 (F144.labM (bodyOf Try.f144) tabR tyR true cs144 0) F144.D) x = o144_0 x.1 := by
  show F144.body (bodyOf Try.f144) tabR tyR true cs144 (F144.labX (bodyOf Try.f144) tabR tyR true cs144 (F144.labM (bodyOf Try.f144) tabR tyR true cs144 0) 2) x = _
  rw [p144_0]
theorem call144 : Callable Try.prog 144 := callable_of Try.func144 (by kernel_rfl) (by kernel_rfl)
theorem ok144 : Cal.Ok Try.prog ⟨144, F144.ps, F144.rs, F144.fr, fun a => f144 a.1⟩ :=
  cal_of_fn F144 (code := bodyOf Try.f144) Try.func144 (by kernel_rfl) (by kernel_rfl) call144 htabR (cs := cs144) (fun c hc => by simp only [cs144, List.not_mem_nil] at hc) (fun _ => mixed) (by kernel_rfl) (by kernel_rfl) (by decide) (fun x => ⟨0, w144 x⟩)
-- tranship/transhipref11.Equal
-- tranship/transhipkeep.weighDeriv
def o120_0 (s120 : Dv → Int → Int → Option Int) (n : Nat) (k1 : Int → Int → Dv → Int → Int → Option Int) (a0 : Dv) (a1 : Int) (a2 : Int) : Option Int :=
  ifB (decide (a2 < (0 : Int))) (
    ckI (a1 + (1 : Int)) <|
    some (a1 + (1 : Int))) (
    k1 a1 a2 a0 (1 : Int) (0 : Int))
def o120_1 (s120 : Dv → Int → Int → Option Int) (n : Nat) (k2 : Int → Int → Dv → Int → Int → Option Int) (t1 : Int) (t2 : Int) (t3 : Dv) (t7 : Int) (t8 : Int) : Option Int :=
  ifB (decide (t8 < (t3.kids.length : Int))) (
    ifB (decide (t7 ≤ t1)) (
      k2 t1 t2 t3 t7 t8) (
      some t7)) (
    some t7)
def o120_2 (s120 : Dv → Int → Int → Option Int) (n : Nat) (k1 : Int → Int → Dv → Int → Int → Option Int) (t1 : Int) (t2 : Int) (t3 : Dv) (t7 : Int) (t8 : Int) : Option Int :=
  atI t3.kids t8 fun x1 =>
  ckI (t1 - t7) <|
  ckI (t2 - (1 : Int)) <|
  (s120 x1 (t1 - t7) (t2 - (1 : Int))).bind fun x2 =>
  ckI (t7 + x2) <|
  ckI (t8 + (1 : Int)) <|
  k1 t1 t2 t3 (t7 + x2) (t8 + (1 : Int))
def c120_2 (s120 : Dv → Int → Int → Option Int) (n : Nat) (k1 : Int → Int → Dv → Int → Int → Option Int) (t1 : Int) (t2 : Int) (t3 : Dv) (t7 : Int) (t8 : Int) : Option Int :=
  o120_2 s120 n k1 t1 t2 t3 t7 t8
def l120_1 (s120 : Dv → Int → Int → Option Int) (n : Nat) : Nat → Int → Int → Dv → Int → Int → Option Int
  | 0, _, _, _, _, _ => none
  | m + 1, t1, t2, t3, t7, t8 => o120_1 s120 n (c120_2 s120 n (l120_1 s120 n m)) t1 t2 t3 t7 t8
def f120 : Nat → Dv → Int → Int → Option Int
  | 0, _, _, _ => none
  | n + 1, a0, a1, a2 => o120_0 (f120 n) n (l120_1 (f120 n) n n) a0 a1 a2
def an120 : An := (.n none [] 0 .z (.n none [] 0 .z (.n none [] 0 .z (.n none [] 0 (.n none [] 0 .z (.n none [] 0 (.n (some 1) [(1, .one .c), (2, .one .c), (3, .ps 0 .dv false), (7, .one .c), (8, .one .c)] 1 (.n (some 2) [(1, .one .c), (2, .one .c), (3, .ps 0 .dv false), (7, .one .c), (8, .one .c)] 1 .z .z) .z) .z)) .z))))
def F120 : Fn := { f := 120, a := an120, vars := [.tmp 6], ps := [.st .dv, .sc .int, .sc .int], rs := [.sc .int], own := false, fr := true, nt := 39, D := 4, loops := [1] }
def cs120 (s120 : Dv → Int → Int → Option Int) (n : Nat) : List Cal := [⟨120, [.st .dv, .sc .int, .sc .int], [.sc .int], true, fun a => s120 a.1 a.2.1 a.2.2.1⟩]
def st120_1 (t1 : Int) (t2 : Int) (t3 : Dv) (t7 : Int) (t8 : Int) : SS := ⟨[(1, .v (.one (.c (.int t1) true))), (2, .v (.one (.c (.int t2) true))), (3, .v (.one (.ptr 0 0))), (7, .v (.one (.c (.int t7) true))), (8, .v (.one (.c (.int t8) true)))], [(0, some (.bst .dv t3 false))], 1⟩
def st120_2 (t1 : Int) (t2 : Int) (t3 : Dv) (t7 : Int) (t8 : Int) : SS := ⟨[(1, .v (.one (.c (.int t1) true))), (2, .v (.one (.c (.int t2) true))), (3, .v (.one (.ptr 0 0))), (7, .v (.one (.c (.int t7) true))), (8, .v (.one (.c (.int t8) true)))], [(0, some (.bst .dv t3 false))], 1⟩
theorem p120_0 (s120 : Dv → Int → Int → Option Int) (n : Nat) (lab : Nat → SS → Option (RT.den F120.rs)) (x : PTs.den F120.ps) : F120.body (bodyOf Try.f120) tabR tyR true (cs120 s120 n) lab x = o120_0 s120 n (fun t1 t2 t3 t7 t8 => lab 1 (st120_1 t1 t2 t3 t7 t8)) x.1 x.2.1 x.2.2.1 := by kernel_rfl
theorem p120_1 (s120 : Dv → Int → Int → Option Int) (n : Nat) (lab : Nat → SS → Option (RT.den F120.rs)) (t1 : Int) (t2 : Int) (t3 : Dv) (t7 : Int) (t8 : Int) : F120.at (bodyOf Try.f120) tabR tyR true (cs120 s120 n) lab 1 (st120_1 t1 t2 t3 t7 t8) = o120_1 s120 n (fun t1 t2 t3 t7 t8 => lab 2 (st120_2 t1 t2 t3 t7 t8)) t1 t2 t3 t7 t8 := by kernel_rfl
theorem p120_2 (s120 : Dv → Int → Int → Option Int) (n : Nat) (lab : Nat → SS → Option (RT.den F120.rs)) (t1 : Int) (t2 : Int) (t3 : Dv) (t7 : Int) (t8 : Int) : F120.at (bodyOf Try.f120) tabR tyR true (cs120 s120 n) lab 2 (st120_2 t1 t2 t3 t7 t8) = o120_2 s120 n (fun t1 t2 t3 t7 t8 => lab 1 (st120_1 t1 t2 t3 t7 t8)) t1 t2 t3 t7 t8 := by kernel_rfl
theorem n120_2 (s120 : Dv → Int → Int → Option Int) (n : Nat) (rec : Nat → SS → Option (RT.den F120.rs)) (k1 : Int → Int → Dv → Int → Int → Option Int) (h1 : ∀ t1 t2 t3 t7 t8, rec 1 (st120_1 t1 t2 t3 t7 t8) = k1 t1 t2 t3 t7 t8) (d : Nat) (t1 : Int) (t2 : Int) (t3 : Dv) (t7 : Int) (t8 : Int) : F120.labD (bodyOf Try.f120) tabR tyR true (cs120 s120 n) rec (d + 1) 2 (st120_2 t1 t2 t3 t7 t8) = c120_2 s120 n k1 t1 t2 t3 t7 t8 := by
  have e1 : ∀ t1 t2 t3 t7 t8, F120.labX (bodyOf Try.f120) tabR tyR true (cs120 s120 n) rec d 1 (st120_1 t1 t2 t3 t7 t8) = k1 t1 t2 t3 t7 t8 := fun t1 t2 t3 t7 t8 => (Fn.labX_loop _ _ _ _ _ _ _ _ _ _ (by kernel_rfl)).trans (h1 t1 t2 t3 t7 t8)
  show F120.labD (bodyOf Try.f120) tabR tyR true (cs120 s120 n) rec (d + 1) 2 _ = _
  rw [Fn.labD_succ, p120_2]
  simp only [e1]
  rfl
theorem m120_1 (s120 : Dv → Int → Int → Option Int) (n : Nat) : ∀ m : Nat, (∀ t1 t2 t3 t7 t8, F120.labM (bodyOf Try.f120) tabR tyR true (cs120 s120 n) m 1 (st120_1 t1 t2 t3 t7 t8) = l120_1 s120 n m t1 t2 t3 t7 t8) := by
  intro m
  induction m with
  | zero => exact fun _ _ _ _ _ => rfl
  | succ m ih =>
    intro t1 t2 t3 t7 t8
    have e2 : ∀ t1 t2 t3 t7 t8, F120.labX (bodyOf Try.f120) tabR tyR true (cs120 s120 n) (F120.labM (bodyOf Try.f120) tabR tyR true (cs120 s120 n) m) 3 2 (st120_2 t1 t2 t3 t7 t8) = c120_2 s120 n (l120_1 s120 n m) t1 t2 t3 t7 t8 := fun t1 t2 t3 t7 t8 => (Fn.labX_step _ _ _ _ _ _ _ _ _ _ (by kernel_rfl)).trans (n120_2 s120 n (F120.labM (bodyOf Try.f120) tabR tyR true (cs120 s120 n) m) (l120_1 s120 n m) ih 2 t1 t2 t3 t7 t8)
    rw [Fn.labM_succ]
    show F120.labD (bodyOf Try.f120) tabR tyR true (cs120 s120 n) (F120.labM (bodyOf Try.f120) tabR tyR true (cs120 s120 n) m) (3 + 1) 1 _ = _
    rw [Fn.labD_succ, p120_1]
    simp only [e2]
    rfl
theorem w120 (s120 : Dv → Int → Int → Option Int) (n : Nat) (x : PTs.den F120.ps) : F120.body (bodyOf Try.f120) tabR tyR true (cs120 s120 n) (F120.labX (bodyOf Try.f120) tabR tyR true (cs120 s120 n) (F120.labM (bodyOf Try.f120) tabR tyR true (cs120 s120 n) n) F120.D) x = o120_0 s120 n (l120_1 s120 n n) x.1 x.2.1 x.2.2.1 := by
  have e1 : ∀ t1 t2 t3 t7 t8, F120.labX (bodyOf Try.f120) tabR tyR true (cs120 s120 n) (F120.labM (bodyOf Try.f120) tabR tyR true (cs120 s120 n) n) 4 1 (st120_1 t1 t2 t3 t7 t8) = (l120_1 s120 n n) t1 t2 t3 t7 t8 := fun t1 t2 t3 t7 t8 => (Fn.labX_loop _ _ _ _ _ _ _ _ _ _ (by kernel_rfl)).trans ((m120_1 s120 n n) t1 t2 t3 t7 t8)
  show F120.body (bodyOf Try.f120) tabR tyR true (cs120 s120 n) (F120.labX (bodyOf Try.f120) tabR tyR true (cs120 s120 n) (F120.labM (bodyOf Try.f120) tabR tyR true (cs120 s120 n) n) 4) x = _
  rw [p120_0]
  simp only [e1]
  try rfl
theorem call120 : Callable Try.prog 120 := callable_of Try.func120 (by kernel_rfl) (by kernel_rfl)
theorem okr120 : ∀ n : Nat, Cal.Ok Try.prog ⟨120, F120.ps, F120.rs, F120.fr, fun a => f120 n a.1 a.2.1 a.2.2.1⟩
  | 0 => ⟨by kernel_rfl, fun a r h => by cases h⟩
  | n + 1 => cal_of_fn F120 (code := bodyOf Try.f120) Try.func120 (by kernel_rfl) (by kernel_rfl) call120 htabR (cs := cs120 (f120 n) n) (fun c hc => by
      simp only [cs120, List.mem_cons, List.not_mem_nil, or_false] at hc
      rcases hc with rfl
      · exact (okr120 n)) (fun _ => mixed) (by kernel_rfl) (by kernel_rfl) (by decide) (fun x => ⟨n, w120 (f120 n) n x⟩)
theorem ok120 (n : Nat) : Cal.Ok Try.prog ⟨120, F120.ps, F120.rs, F120.fr, fun a => f120 n a.1 a.2.1 a.2.2.1⟩ := (okr120 n)
-- tranship/transhipkeep.GreatDeriv
def o72_0 (n : Nat) (a0 : Dv) (a1 : Int) : Option Bool :=
  (f120 n a0 a1 (200 : Int)).bind fun x1 =>
  some (decide (a1 < x1))
def f72 (n : Nat) (a0 : Dv) (a1 : Int) : Option Bool := o72_0 n a0 a1
def an72 : An := .z
def F72 : Fn := { f := 72, a := an72, vars := [.tmp 4], ps := [.st .dv, .sc .int], rs := [.sc .bool], own := false, fr := true, nt := 10, D := 2, loops := [] }
def cs72 (n : Nat) : List Cal := [⟨120, [.st .dv, .sc .int, .sc .int], [.sc .int], true, fun a => f120 n a.1 a.2.1 a.2.2.1⟩]
theorem p72_0 (n : Nat) (lab : Nat → SS → Option (RT.den F72.rs)) (x : PTs.den F72.ps) : F72.body (bodyOf Try.f72) tabR tyR true (cs72 n) lab x = o72_0 n x.1 x.2.1 := by kernel_rfl
theorem w72 (n : Nat) (x : PTs.den F72.ps) : F72.body (bodyOf Try.f72) tabR tyR true (cs72 n) (F72.labX (bodyOf Try.f72) tabR tyR true (cs72 n) (F72.labM (bodyOf Try.f72) tabR tyR true (cs72 n) 0) F72.D) x = o72_0 n x.1 x.2.1 := by
  show F72.body (bodyOf Try.f72) tabR tyR true (cs72 n) (F72.labX (bodyOf Try.f72) tabR tyR true (cs72 n) (F72.labM (bodyOf Try.f72) tabR tyR true (cs72 n) 0) 2) x = _
  rw [p72_0]
theorem call72 : Callable Try.prog 72 := callable_of Try.func72 (by kernel_rfl) (by kernel_rfl)
theorem ok72 (n : Nat) : Cal.Ok Try.prog ⟨72, F72.ps, F72.rs, F72.fr, fun a => f72 n a.1 a.2.1⟩ :=
  cal_of_fn F72 (code := bodyOf Try.f72) Try.func72 (by kernel_rfl) (by kernel_rfl) call72 htabR (cs := cs72 n) (fun c hc => by
      simp only [cs72, List.mem_cons, List.not_mem_nil, or_false] at hc
      rcases hc with rfl
      · exact ok120 n) (fun _ => mixed) (by kernel_rfl) (by kernel_rfl) (by decide) (fun x => ⟨0, w72 n x⟩)
-- tranship/deriv.Right
def o117_0 (s117 : Dv → Option Bool) (n : Nat) (k1 : Dv → Option Bool) (a0 : Dv) : Option Bool :=
  (f106 a0.rule).bind fun x1 =>
  ifB (!decide (x1 = (a0.kids.length : Int))) (
    some false) (
    ifB (decide (a0.i < (0 : Int))) (
      some false) (
      ifB (decide ((1000000 : Int) < a0.i)) (
        some false) (
        ifB (!decide (a0.i = (0 : Int))) (
          ifB (!decide (a0.rule = (1 : Int))) (
            ifB (!decide (a0.rule = (2 : Int))) (
              some false) (
              k1 a0)) (
            k1 a0)) (
          k1 a0))))
def o117_1 (s117 : Dv → Option Bool) (n : Nat) (k2 : (List Dv) → Int → Int → Option Bool) (t1 : Dv) : Option Bool :=
  k2 t1.kids (t1.kids.length : Int) (0 : Int)
def o117_2 (s117 : Dv → Option Bool) (n : Nat) (k2 : (List Dv) → Int → Int → Option Bool) (t38 : List Dv) (t39 : Int) (t40 : Int) : Option Bool :=
  ifB (decide (t40 < t39)) (
    atI t38 t40 fun x2 =>
    (s117 x2).bind fun x3 =>
    ifB (!x3) (
      some false) (
      ckI (t40 + (1 : Int)) <|
      k2 t38 t39 (t40 + (1 : Int)))) (
    some true)
def c117_1 (s117 : Dv → Option Bool) (n : Nat) (k2 : (List Dv) → Int → Int → Option Bool) (t1 : Dv) : Option Bool :=
  o117_1 s117 n k2 t1
def l117_2 (s117 : Dv → Option Bool) (n : Nat) : Nat → (List Dv) → Int → Int → Option Bool
  | 0, _, _, _ => none
  | m + 1, t38, t39, t40 => o117_2 s117 n (l117_2 s117 n m) t38 t39 t40
def f117 : Nat → Dv → Option Bool
  | 0, _ => none
  | n + 1, a0 => o117_0 (f117 n) n (c117_1 (f117 n) n (l117_2 (f117 n) n n)) a0
def an117 : An := (.n none [] 0 .z (.n (some 1) [(1, .ps 0 .dv false)] 1 .z (.n none [] 0 (.n none [] 0 .z (.n none [] 0 (.n (some 2) [(38, .one (.d .dv false)), (39, .one .c), (40, .one .c)] 0 .z .z) .z)) .z)))
def F117 : Fn := { f := 117, a := an117, vars := [.tmp 2], ps := [.st .dv], rs := [.sc .bool], own := false, fr := true, nt := 48, D := 4, loops := [2] }
def cs117 (s117 : Dv → Option Bool) (n : Nat) : List Cal := [⟨106, [.sc .int], [.sc .int], true, fun a => f106 a.1⟩, ⟨117, [.st .dv], [.sc .bool], true, fun a => s117 a.1⟩]
def st117_1 (t1 : Dv) : SS := ⟨[(1, .v (.one (.ptr 0 0)))], [(0, some (.bst .dv t1 false))], 1⟩
def st117_2 (t38 : List Dv) (t39 : Int) (t40 : Int) : SS := ⟨[(38, .v (.one (.c (.sl .dv t38) false))), (39, .v (.one (.c (.int t39) true))), (40, .v (.one (.c (.int t40) true)))], [], 0⟩
theorem p117_0 (s117 : Dv → Option Bool) (n : Nat) (lab : Nat → SS → Option (RT.den F117.rs)) (x : PTs.den F117.ps) : F117.body (bodyOf Try.f117) tabR tyR true (cs117 s117 n) lab x = o117_0 s117 n (fun t1 => lab 1 (st117_1 t1)) x.1 := by kernel_rfl
theorem p117_1 (s117 : Dv → Option Bool) (n : Nat) (lab : Nat → SS → Option (RT.den F117.rs)) (t1 : Dv) : F117.at (bodyOf Try.f117) tabR tyR true (cs117 s117 n) lab 1 (st117_1 t1) = o117_1 s117 n (fun t38 t39 t40 => lab 2 (st117_2 t38 t39 t40)) t1 := by kernel_rfl
theorem p117_2 (s117 : Dv → Option Bool) (n : Nat) (lab : Nat → SS → Option (RT.den F117.rs)) (t38 : List Dv) (t39 : Int) (t40 : Int) : F117.at (bodyOf Try.f117) tabR tyR true (cs117 s117 n) lab 2 (st117_2 t38 t39 t40) = o117_2 s117 n (fun t38 t39 t40 => lab 2 (st117_2 t38 t39 t40)) t38 t39 t40 := by kernel_rfl
theorem n117_1 (s117 : Dv → Option Bool) (n : Nat) (rec : Nat → SS → Option (RT.den F117.rs)) (k2 : (List Dv) → Int → Int → Option Bool) (h2 : ∀ t38 t39 t40, rec 2 (st117_2 t38 t39 t40) = k2 t38 t39 t40) (d : Nat) (t1 : Dv) : F117.labD (bodyOf Try.f117) tabR tyR true (cs117 s117 n) rec (d + 1) 1 (st117_1 t1) = c117_1 s117 n k2 t1 := by
  have e2 : ∀ t38 t39 t40, F117.labX (bodyOf Try.f117) tabR tyR true (cs117 s117 n) rec d 2 (st117_2 t38 t39 t40) = k2 t38 t39 t40 := fun t38 t39 t40 => (Fn.labX_loop _ _ _ _ _ _ _ _ _ _ (by kernel_rfl)).trans (h2 t38 t39 t40)
  show F117.labD (bodyOf Try.f117) tabR tyR true (cs117 s117 n) rec (d + 1) 1 _ = _
  rw [Fn.labD_succ, p117_1]
  simp only [e2]
  rfl
theorem m117_2 (s117 : Dv → Option Bool) (n : Nat) : ∀ m : Nat, (∀ t38 t39 t40, F117.labM (bodyOf Try.f117) tabR tyR true (cs117 s117 n) m 2 (st117_2 t38 t39 t40) = l117_2 s117 n m t38 t39 t40) := by
  intro m
  induction m with
  | zero => exact fun _ _ _ => rfl
  | succ m ih =>
    intro t38 t39 t40
    have e2 : ∀ t38 t39 t40, F117.labX (bodyOf Try.f117) tabR tyR true (cs117 s117 n) (F117.labM (bodyOf Try.f117) tabR tyR true (cs117 s117 n) m) 3 2 (st117_2 t38 t39 t40) = (l117_2 s117 n m) t38 t39 t40 := fun t38 t39 t40 => (Fn.labX_loop _ _ _ _ _ _ _ _ _ _ (by kernel_rfl)).trans (ih t38 t39 t40)
    rw [Fn.labM_succ]
    show F117.labD (bodyOf Try.f117) tabR tyR true (cs117 s117 n) (F117.labM (bodyOf Try.f117) tabR tyR true (cs117 s117 n) m) (3 + 1) 2 _ = _
    rw [Fn.labD_succ, p117_2]
    simp only [e2]
    rfl
theorem w117 (s117 : Dv → Option Bool) (n : Nat) (x : PTs.den F117.ps) : F117.body (bodyOf Try.f117) tabR tyR true (cs117 s117 n) (F117.labX (bodyOf Try.f117) tabR tyR true (cs117 s117 n) (F117.labM (bodyOf Try.f117) tabR tyR true (cs117 s117 n) n) F117.D) x = o117_0 s117 n (c117_1 s117 n (l117_2 s117 n n)) x.1 := by
  have e1 : ∀ t1, F117.labX (bodyOf Try.f117) tabR tyR true (cs117 s117 n) (F117.labM (bodyOf Try.f117) tabR tyR true (cs117 s117 n) n) 4 1 (st117_1 t1) = c117_1 s117 n (l117_2 s117 n n) t1 := fun t1 => (Fn.labX_step _ _ _ _ _ _ _ _ _ _ (by kernel_rfl)).trans (n117_1 s117 n (F117.labM (bodyOf Try.f117) tabR tyR true (cs117 s117 n) n) (l117_2 s117 n n) (m117_2 s117 n n) 3 t1)
  show F117.body (bodyOf Try.f117) tabR tyR true (cs117 s117 n) (F117.labX (bodyOf Try.f117) tabR tyR true (cs117 s117 n) (F117.labM (bodyOf Try.f117) tabR tyR true (cs117 s117 n) n) 4) x = _
  rw [p117_0]
  simp only [e1]
  try rfl
theorem call117 : Callable Try.prog 117 := callable_of Try.func117 (by kernel_rfl) (by kernel_rfl)
theorem okr117 : ∀ n : Nat, Cal.Ok Try.prog ⟨117, F117.ps, F117.rs, F117.fr, fun a => f117 n a.1⟩
  | 0 => ⟨by kernel_rfl, fun a r h => by cases h⟩
  | n + 1 => cal_of_fn F117 (code := bodyOf Try.f117) Try.func117 (by kernel_rfl) (by kernel_rfl) call117 htabR (cs := cs117 (f117 n) n) (fun c hc => by
      simp only [cs117, List.mem_cons, List.not_mem_nil, or_false] at hc
      rcases hc with rfl | rfl
      · exact ok106
      · exact (okr117 n)) (fun _ => mixed) (by kernel_rfl) (by kernel_rfl) (by decide) (fun x => ⟨n, w117 (f117 n) n x⟩)
theorem ok117 (n : Nat) : Cal.Ok Try.prog ⟨117, F117.ps, F117.rs, F117.fr, fun a => f117 n a.1⟩ := (okr117 n)
-- tranship/transhipkeep.Ints
-- tranship/transhipkeep.GreatFile
def o71_0 (n : Nat) (k1 : Int → Fl → Int → Int → Option Bool) (a0 : Fl) (a1 : Int) : Option Bool :=
  ifB (decide (a1 < (a0.ctx.length : Int))) (
    some true) (
    (f120 n a0.d a1 (200 : Int)).bind fun x1 =>
    k1 a1 a0 x1 (0 : Int))
def o71_1 (n : Nat) (k2 : Int → Fl → Int → Int → Option Bool) (t1 : Int) (t2 : Fl) (t5 : Int) (t6 : Int) : Option Bool :=
  ifB (decide (t6 < (t2.ctx.length : Int))) (
    ifB (decide (t5 ≤ t1)) (
      k2 t1 t2 t5 t6) (
      some (decide (t1 < t5)))) (
    some (decide (t1 < t5)))
def o71_2 (n : Nat) (k1 : Int → Fl → Int → Int → Option Bool) (t1 : Int) (t2 : Fl) (t5 : Int) (t6 : Int) : Option Bool :=
  atI t2.ctx t6 fun x2 =>
  ckI (t1 - t5) <|
  (f120 n x2 (t1 - t5) (200 : Int)).bind fun x3 =>
  ckI (t5 + x3) <|
  ckI (t6 + (1 : Int)) <|
  k1 t1 t2 (t5 + x3) (t6 + (1 : Int))
def c71_2 (n : Nat) (k1 : Int → Fl → Int → Int → Option Bool) (t1 : Int) (t2 : Fl) (t5 : Int) (t6 : Int) : Option Bool :=
  o71_2 n k1 t1 t2 t5 t6
def l71_1 (n : Nat) : Nat → Int → Fl → Int → Int → Option Bool
  | 0, _, _, _, _ => none
  | m + 1, t1, t2, t5, t6 => o71_1 n (c71_2 n (l71_1 n m)) t1 t2 t5 t6
def f71 (n : Nat) (a0 : Fl) (a1 : Int) : Option Bool := o71_0 n (l71_1 n n) a0 a1
def an71 : An := (.n none [] 0 .z (.n none [] 0 .z (.n none [] 0 .z (.n none [] 0 (.n none [] 0 .z (.n none [] 0 (.n (some 1) [(1, .one .c), (2, .ps 0 .fl false), (5, .one .c), (6, .one .c)] 1 (.n (some 2) [(1, .one .c), (2, .ps 0 .fl false), (5, .one .c), (6, .one .c)] 1 .z .z) .z) .z)) .z))))
def F71 : Fn := { f := 71, a := an71, vars := [.tmp 4], ps := [.st .fl, .sc .int], rs := [.sc .bool], own := false, fr := true, nt := 42, D := 4, loops := [1] }
def cs71 (n : Nat) : List Cal := [⟨120, [.st .dv, .sc .int, .sc .int], [.sc .int], true, fun a => f120 n a.1 a.2.1 a.2.2.1⟩]
def st71_1 (t1 : Int) (t2 : Fl) (t5 : Int) (t6 : Int) : SS := ⟨[(1, .v (.one (.c (.int t1) true))), (2, .v (.one (.ptr 0 0))), (5, .v (.one (.c (.int t5) true))), (6, .v (.one (.c (.int t6) true)))], [(0, some (.bst .fl t2 false))], 1⟩
def st71_2 (t1 : Int) (t2 : Fl) (t5 : Int) (t6 : Int) : SS := ⟨[(1, .v (.one (.c (.int t1) true))), (2, .v (.one (.ptr 0 0))), (5, .v (.one (.c (.int t5) true))), (6, .v (.one (.c (.int t6) true)))], [(0, some (.bst .fl t2 false))], 1⟩
theorem p71_0 (n : Nat) (lab : Nat → SS → Option (RT.den F71.rs)) (x : PTs.den F71.ps) : F71.body (bodyOf Try.f71) tabR tyR true (cs71 n) lab x = o71_0 n (fun t1 t2 t5 t6 => lab 1 (st71_1 t1 t2 t5 t6)) x.1 x.2.1 := by kernel_rfl
theorem p71_1 (n : Nat) (lab : Nat → SS → Option (RT.den F71.rs)) (t1 : Int) (t2 : Fl) (t5 : Int) (t6 : Int) : F71.at (bodyOf Try.f71) tabR tyR true (cs71 n) lab 1 (st71_1 t1 t2 t5 t6) = o71_1 n (fun t1 t2 t5 t6 => lab 2 (st71_2 t1 t2 t5 t6)) t1 t2 t5 t6 := by kernel_rfl
theorem p71_2 (n : Nat) (lab : Nat → SS → Option (RT.den F71.rs)) (t1 : Int) (t2 : Fl) (t5 : Int) (t6 : Int) : F71.at (bodyOf Try.f71) tabR tyR true (cs71 n) lab 2 (st71_2 t1 t2 t5 t6) = o71_2 n (fun t1 t2 t5 t6 => lab 1 (st71_1 t1 t2 t5 t6)) t1 t2 t5 t6 := by kernel_rfl
theorem n71_2 (n : Nat) (rec : Nat → SS → Option (RT.den F71.rs)) (k1 : Int → Fl → Int → Int → Option Bool) (h1 : ∀ t1 t2 t5 t6, rec 1 (st71_1 t1 t2 t5 t6) = k1 t1 t2 t5 t6) (d : Nat) (t1 : Int) (t2 : Fl) (t5 : Int) (t6 : Int) : F71.labD (bodyOf Try.f71) tabR tyR true (cs71 n) rec (d + 1) 2 (st71_2 t1 t2 t5 t6) = c71_2 n k1 t1 t2 t5 t6 := by
  have e1 : ∀ t1 t2 t5 t6, F71.labX (bodyOf Try.f71) tabR tyR true (cs71 n) rec d 1 (st71_1 t1 t2 t5 t6) = k1 t1 t2 t5 t6 := fun t1 t2 t5 t6 => (Fn.labX_loop _ _ _ _ _ _ _ _ _ _ (by kernel_rfl)).trans (h1 t1 t2 t5 t6)
  show F71.labD (bodyOf Try.f71) tabR tyR true (cs71 n) rec (d + 1) 2 _ = _
  rw [Fn.labD_succ, p71_2]
  simp only [e1]
  rfl
theorem m71_1 (n : Nat) : ∀ m : Nat, (∀ t1 t2 t5 t6, F71.labM (bodyOf Try.f71) tabR tyR true (cs71 n) m 1 (st71_1 t1 t2 t5 t6) = l71_1 n m t1 t2 t5 t6) := by
  intro m
  induction m with
  | zero => exact fun _ _ _ _ => rfl
  | succ m ih =>
    intro t1 t2 t5 t6
    have e2 : ∀ t1 t2 t5 t6, F71.labX (bodyOf Try.f71) tabR tyR true (cs71 n) (F71.labM (bodyOf Try.f71) tabR tyR true (cs71 n) m) 3 2 (st71_2 t1 t2 t5 t6) = c71_2 n (l71_1 n m) t1 t2 t5 t6 := fun t1 t2 t5 t6 => (Fn.labX_step _ _ _ _ _ _ _ _ _ _ (by kernel_rfl)).trans (n71_2 n (F71.labM (bodyOf Try.f71) tabR tyR true (cs71 n) m) (l71_1 n m) ih 2 t1 t2 t5 t6)
    rw [Fn.labM_succ]
    show F71.labD (bodyOf Try.f71) tabR tyR true (cs71 n) (F71.labM (bodyOf Try.f71) tabR tyR true (cs71 n) m) (3 + 1) 1 _ = _
    rw [Fn.labD_succ, p71_1]
    simp only [e2]
    rfl
theorem w71 (n : Nat) (x : PTs.den F71.ps) : F71.body (bodyOf Try.f71) tabR tyR true (cs71 n) (F71.labX (bodyOf Try.f71) tabR tyR true (cs71 n) (F71.labM (bodyOf Try.f71) tabR tyR true (cs71 n) n) F71.D) x = o71_0 n (l71_1 n n) x.1 x.2.1 := by
  have e1 : ∀ t1 t2 t5 t6, F71.labX (bodyOf Try.f71) tabR tyR true (cs71 n) (F71.labM (bodyOf Try.f71) tabR tyR true (cs71 n) n) 4 1 (st71_1 t1 t2 t5 t6) = (l71_1 n n) t1 t2 t5 t6 := fun t1 t2 t5 t6 => (Fn.labX_loop _ _ _ _ _ _ _ _ _ _ (by kernel_rfl)).trans ((m71_1 n n) t1 t2 t5 t6)
  show F71.body (bodyOf Try.f71) tabR tyR true (cs71 n) (F71.labX (bodyOf Try.f71) tabR tyR true (cs71 n) (F71.labM (bodyOf Try.f71) tabR tyR true (cs71 n) n) 4) x = _
  rw [p71_0]
  simp only [e1]
  try rfl
theorem call71 : Callable Try.prog 71 := callable_of Try.func71 (by kernel_rfl) (by kernel_rfl)
theorem ok71 (n : Nat) : Cal.Ok Try.prog ⟨71, F71.ps, F71.rs, F71.fr, fun a => f71 n a.1 a.2.1⟩ :=
  cal_of_fn F71 (code := bodyOf Try.f71) Try.func71 (by kernel_rfl) (by kernel_rfl) call71 htabR (cs := cs71 n) (fun c hc => by
      simp only [cs71, List.mem_cons, List.not_mem_nil, or_false] at hc
      rcases hc with rfl
      · exact ok120 n) (fun _ => mixed) (by kernel_rfl) (by kernel_rfl) (by decide) (fun x => ⟨n, w71 n x⟩)
-- tranship/deriv.copied
-- tranship/deriv.At
-- tranship/transhipref11.numbered
-- tranship/transhipref11.Right
end Go.Proofs.Ytcaahmielncmpaa
