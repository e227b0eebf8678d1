/-
  What the functions on derivations compute, as plain functions.
-/
import Derived.Test.YtcaahmielncmpaaTypedB
set_option linter.unusedSimpArgs false
set_option linter.unusedVariables false
namespace Go.Proofs.Ytcaahmielncmpaa
open Go Go.RowKit
set_option maxRecDepth 100000
-- tranship/deriv.Kids
def o106_0 (k1 : Int → Bool → Option Int) (a0 : Int) : Option Int :=
  ifB (decide (a0 = (1 : Int))) (
    k1 a0 (decide (a0 = (1 : Int)))) (
    k1 a0 (decide (a0 = (2 : Int))))
def o106_1 (k2 : Int → Bool → Option Int) (t3 : Int) (t4 : Bool) : Option Int :=
  ifB t4 (
    some (0 : Int)) (
    ifB (decide (t3 = (8 : Int))) (
      k2 t3 (decide (t3 = (8 : Int)))) (
      ifB (decide (t3 = (9 : Int))) (
        k2 t3 (decide (t3 = (9 : Int)))) (
        ifB (decide (t3 = (21 : Int))) (
          k2 t3 (decide (t3 = (21 : Int)))) (
          ifB (decide (t3 = (22 : Int))) (
            k2 t3 (decide (t3 = (22 : Int)))) (
            ifB (decide (t3 = (17 : Int))) (
              k2 t3 (decide (t3 = (17 : Int)))) (
              ifB (decide (t3 = (11 : Int))) (
                k2 t3 (decide (t3 = (11 : Int)))) (
                ifB (decide (t3 = (13 : Int))) (
                  k2 t3 (decide (t3 = (13 : Int)))) (
                  k2 t3 (decide (t3 = (14 : Int)))))))))))
def o106_2 (k3 : Int → Bool → Option Int) (t3 : Int) (t7 : Bool) : Option Int :=
  ifB t7 (
    some (1 : Int)) (
    ifB (decide (t3 = (3 : Int))) (
      k3 t3 (decide (t3 = (3 : Int)))) (
      ifB (decide (t3 = (6 : Int))) (
        k3 t3 (decide (t3 = (6 : Int)))) (
        ifB (decide (t3 = (4 : Int))) (
          k3 t3 (decide (t3 = (4 : Int)))) (
          ifB (decide (t3 = (5 : Int))) (
            k3 t3 (decide (t3 = (5 : Int)))) (
            ifB (decide (t3 = (10 : Int))) (
              k3 t3 (decide (t3 = (10 : Int)))) (
              ifB (decide (t3 = (12 : Int))) (
                k3 t3 (decide (t3 = (12 : Int)))) (
                ifB (decide (t3 = (15 : Int))) (
                  k3 t3 (decide (t3 = (15 : Int)))) (
                  ifB (decide (t3 = (16 : Int))) (
                    k3 t3 (decide (t3 = (16 : Int)))) (
                    ifB (decide (t3 = (24 : Int))) (
                      k3 t3 (decide (t3 = (24 : Int)))) (
                      ifB (decide (t3 = (18 : Int))) (
                        k3 t3 (decide (t3 = (18 : Int)))) (
                        ifB (decide (t3 = (23 : Int))) (
                          k3 t3 (decide (t3 = (23 : Int)))) (
                          ifB (decide (t3 = (25 : Int))) (
                            k3 t3 (decide (t3 = (25 : Int)))) (
                            k3 t3 (decide (t3 = (26 : Int))))))))))))))))
def o106_3 (t3 : Int) (t16 : Bool) : Option Int :=
  ifB t16 (
    some (2 : Int)) (
    ifB (decide (t3 = (7 : Int))) (
      ifB (decide (t3 = (7 : Int))) (
        some (3 : Int)) (
        ifB (decide (t3 = (28 : Int))) (
          some (4 : Int)) (
          some (-1 : Int)))) (
      ifB (decide (t3 = (19 : Int))) (
        ifB (decide (t3 = (19 : Int))) (
          some (3 : Int)) (
          ifB (decide (t3 = (28 : Int))) (
            some (4 : Int)) (
            some (-1 : Int)))) (
        ifB (decide (t3 = (20 : Int))) (
          ifB (decide (t3 = (20 : Int))) (
            some (3 : Int)) (
            ifB (decide (t3 = (28 : Int))) (
              some (4 : Int)) (
              some (-1 : Int)))) (
          ifB (decide (t3 = (27 : Int))) (
            some (3 : Int)) (
            ifB (decide (t3 = (28 : Int))) (
              some (4 : Int)) (
              some (-1 : Int)))))))
def c106_3 (t3 : Int) (t16 : Bool) : Option Int :=
  o106_3 t3 t16
def c106_2 (t3 : Int) (t7 : Bool) : Option Int :=
  o106_2 (c106_3) t3 t7
def c106_1 (t3 : Int) (t4 : Bool) : Option Int :=
  o106_1 (c106_2) t3 t4
def f106 (a0 : Int) : Option Int := o106_0 (c106_1) a0
def an106 : An := (.n none [] 0 .z (.n none [] 0 (.n none [] 0 .z (.n none [] 0 (.n (some 1) [(3, .one .c), (4, .one .c)] 0 .z (.n none [] 0 .z (.n (some 2) [(3, .one .c), (7, .one .c)] 0 .z (.n none [] 0 .z (.n (some 3) [(3, .one .c), (16, .one .c)] 0 .z .z))))) .z)) .z))
def F106 : Fn := { f := 106, a := an106, vars := [.tmp 2], ps := [.sc .int], rs := [.sc .int], own := false, fr := true, nt := 37, D := 5, loops := [] }
def cs106 : List Cal := []
def st106_1 (t3 : Int) (t4 : Bool) : SS := ⟨[(3, .v (.one (.c (.int t3) true))), (4, .v (.one (.c (.bool t4) true)))], [], 0⟩
def st106_2 (t3 : Int) (t7 : Bool) : SS := ⟨[(3, .v (.one (.c (.int t3) true))), (7, .v (.one (.c (.bool t7) true)))], [], 0⟩
def st106_3 (t3 : Int) (t16 : Bool) : SS := ⟨[(3, .v (.one (.c (.int t3) true))), (16, .v (.one (.c (.bool t16) true)))], [], 0⟩
theorem p106_0 (lab : Nat → SS → Option (RT.den F106.rs)) (x : PTs.den F106.ps) : F106.body (bodyOf Try.f106) tabR tyR true cs106 lab x = o106_0 (fun t3 t4 => lab 1 (st106_1 t3 t4)) x.1 := by kernel_rfl
theorem p106_1 (lab : Nat → SS → Option (RT.den F106.rs)) (t3 : Int) (t4 : Bool) : F106.at (bodyOf Try.f106) tabR tyR true cs106 lab 1 (st106_1 t3 t4) = o106_1 (fun t3 t7 => lab 2 (st106_2 t3 t7)) t3 t4 := by kernel_rfl
theorem p106_2 (lab : Nat → SS → Option (RT.den F106.rs)) (t3 : Int) (t7 : Bool) : F106.at (bodyOf Try.f106) tabR tyR true cs106 lab 2 (st106_2 t3 t7) = o106_2 (fun t3 t16 => lab 3 (st106_3 t3 t16)) t3 t7 := by kernel_rfl
theorem p106_3 (lab : Nat → SS → Option (RT.den F106.rs)) (t3 : Int) (t16 : Bool) : F106.at (bodyOf Try.f106) tabR tyR true cs106 lab 3 (st106_3 t3 t16) = o106_3 t3 t16 := by kernel_rfl
theorem n106_3 (rec : Nat → SS → Option (RT.den F106.rs)) (d : Nat) (t3 : Int) (t16 : Bool) : F106.labD (bodyOf Try.f106) tabR tyR true cs106 rec (d + 1) 3 (st106_3 t3 t16) = c106_3 t3 t16 := by
  show F106.labD (bodyOf Try.f106) tabR tyR true cs106 rec (d + 1) 3 _ = _
  rw [Fn.labD_succ, p106_3]
  rfl
theorem n106_2 (rec : Nat → SS → Option (RT.den F106.rs)) (d : Nat) (t3 : Int) (t7 : Bool) : F106.labD (bodyOf Try.f106) tabR tyR true cs106 rec (d + 2) 2 (st106_2 t3 t7) = c106_2 t3 t7 := by
  have e3 : ∀ t3 t16, F106.labX (bodyOf Try.f106) tabR tyR true cs106 rec (d + 1) 3 (st106_3 t3 t16) = c106_3 t3 t16 := fun t3 t16 => (Fn.labX_step _ _ _ _ _ _ _ _ _ _ (by kernel_rfl)).trans (n106_3 rec d t3 t16)
  show F106.labD (bodyOf Try.f106) tabR tyR true cs106 rec ((d + 1) + 1) 2 _ = _
  rw [Fn.labD_succ, p106_2]
  simp only [e3]
  rfl
theorem n106_1 (rec : Nat → SS → Option (RT.den F106.rs)) (d : Nat) (t3 : Int) (t4 : Bool) : F106.labD (bodyOf Try.f106) tabR tyR true cs106 rec (d + 3) 1 (st106_1 t3 t4) = c106_1 t3 t4 := by
  have e2 : ∀ t3 t7, F106.labX (bodyOf Try.f106) tabR tyR true cs106 rec (d + 2) 2 (st106_2 t3 t7) = c106_2 t3 t7 := fun t3 t7 => (Fn.labX_step _ _ _ _ _ _ _ _ _ _ (by kernel_rfl)).trans (n106_2 rec d t3 t7)
  show F106.labD (bodyOf Try.f106) tabR tyR true cs106 rec ((d + 2) + 1) 1 _ = _
  rw [Fn.labD_succ, p106_1]
  simp only [e2]
  rfl
theorem w106 (x : PTs.den F106.ps) : F106.body (bodyOf Try.f106) tabR tyR true cs106 (F106.labX (bodyOf Try.f106) tabR tyR true cs106 (F106.labM (bodyOf Try.f106) tabR tyR true cs106 0) F106.D) x = o106_0 (c106_1) x.1 := by
  have e1 : ∀ t3 t4, F106.labX (bodyOf Try.f106) tabR tyR true cs106 (F106.labM (bodyOf Try.f106) tabR tyR true cs106 0) 5 1 (st106_1 t3 t4) = c106_1 t3 t4 := fun t3 t4 => (Fn.labX_step _ _ _ _ _ _ _ _ _ _ (by kernel_rfl)).trans (n106_1 (F106.labM (bodyOf Try.f106) tabR tyR true cs106 0) 2 t3 t4)
  show F106.body (bodyOf Try.f106) tabR tyR true cs106 (F106.labX (bodyOf Try.f106) tabR tyR true cs106 (F106.labM (bodyOf Try.f106) tabR tyR true cs106 0) 5) x = _
  rw [p106_0]
  simp only [e1]
  try rfl
theorem call106 : Callable Try.prog 106 := callable_of Try.func106 (by kernel_rfl) (by kernel_rfl)
theorem ok106 : Cal.Ok Try.prog ⟨106, F106.ps, F106.rs, F106.fr, fun a => f106 a.1⟩ :=
  cal_of_fn F106 (code := bodyOf Try.f106) Try.func106 (by kernel_rfl) (by kernel_rfl) call106 htabR (cs := cs106) (fun c hc => by simp only [cs106, List.not_mem_nil] at hc) (fun _ => mixed) (by kernel_rfl) (by kernel_rfl) (by decide) (fun x => ⟨0, w106 x⟩)
-- tranship/deriv.Inner
def o107_0 (k1 : Int → Int → Bool → Option Bool) (a0 : Int) (a1 : Int) : Option Bool :=
  ifB (decide (a0 = (3 : Int))) (
    k1 a1 a0 (decide (a0 = (3 : Int)))) (
    ifB (decide (a0 = (6 : Int))) (
      k1 a1 a0 (decide (a0 = (6 : Int)))) (
      ifB (decide (a0 = (4 : Int))) (
        k1 a1 a0 (decide (a0 = (4 : Int)))) (
        ifB (decide (a0 = (7 : Int))) (
          k1 a1 a0 (decide (a0 = (7 : Int)))) (
          ifB (decide (a0 = (19 : Int))) (
            k1 a1 a0 (decide (a0 = (19 : Int)))) (
            ifB (decide (a0 = (20 : Int))) (
              k1 a1 a0 (decide (a0 = (20 : Int)))) (
              ifB (decide (a0 = (18 : Int))) (
                k1 a1 a0 (decide (a0 = (18 : Int)))) (
                ifB (decide (a0 = (23 : Int))) (
                  k1 a1 a0 (decide (a0 = (23 : Int)))) (
                  ifB (decide (a0 = (25 : Int))) (
                    k1 a1 a0 (decide (a0 = (25 : Int)))) (
                    ifB (decide (a0 = (26 : Int))) (
                      k1 a1 a0 (decide (a0 = (26 : Int)))) (
                      k1 a1 a0 (decide (a0 = (28 : Int)))))))))))))
def o107_1 (t1 : Int) (t5 : Int) (t6 : Bool) : Option Bool :=
  ifB t6 (
    some (decide (t1 = (1 : Int)))) (
    ifB (decide (t5 = (27 : Int))) (
      ifB (decide (t1 = (1 : Int))) (
        some true) (
        some (decide (t1 = (2 : Int))))) (
      some false))
def c107_1 (t1 : Int) (t5 : Int) (t6 : Bool) : Option Bool :=
  o107_1 t1 t5 t6
def f107 (a0 : Int) (a1 : Int) : Option Bool := o107_0 (c107_1) a0 a1
def an107 : An := (.n none [] 0 .z (.n none [] 0 (.n none [] 0 .z (.n none [] 0 (.n (some 1) [(1, .one .c), (5, .one .c), (6, .one .c)] 0 .z .z) .z)) .z))
def F107 : Fn := { f := 107, a := an107, vars := [.tmp 4], ps := [.sc .int, .sc .int], rs := [.sc .bool], own := false, fr := true, nt := 28, D := 3, loops := [] }
def cs107 : List Cal := []
def st107_1 (t1 : Int) (t5 : Int) (t6 : Bool) : SS := ⟨[(1, .v (.one (.c (.int t1) true))), (5, .v (.one (.c (.int t5) true))), (6, .v (.one (.c (.bool t6) true)))], [], 0⟩
theorem p107_0 (lab : Nat → SS → Option (RT.den F107.rs)) (x : PTs.den F107.ps) : F107.body (bodyOf Try.f107) tabR tyR true cs107 lab x = o107_0 (fun t1 t5 t6 => lab 1 (st107_1 t1 t5 t6)) x.1 x.2.1 := by kernel_rfl
theorem p107_1 (lab : Nat → SS → Option (RT.den F107.rs)) (t1 : Int) (t5 : Int) (t6 : Bool) : F107.at (bodyOf Try.f107) tabR tyR true cs107 lab 1 (st107_1 t1 t5 t6) = o107_1 t1 t5 t6 := by kernel_rfl
theorem n107_1 (rec : Nat → SS → Option (RT.den F107.rs)) (d : Nat) (t1 : Int) (t5 : Int) (t6 : Bool) : F107.labD (bodyOf Try.f107) tabR tyR true cs107 rec (d + 1) 1 (st107_1 t1 t5 t6) = c107_1 t1 t5 t6 := by
  show F107.labD (bodyOf Try.f107) tabR tyR true cs107 rec (d + 1) 1 _ = _
  rw [Fn.labD_succ, p107_1]
  rfl
theorem w107 (x : PTs.den F107.ps) : F107.body (bodyOf Try.f107) tabR tyR true cs107 (F107.labX (bodyOf Try.f107) tabR tyR true cs107 (F107.labM (bodyOf Try.f107) tabR tyR true cs107 0) F107.D) x = o107_0 (c107_1) x.1 x.2.1 := by
  have e1 : ∀ t1 t5 t6, F107.labX (bodyOf Try.f107) tabR tyR true cs107 (F107.labM (bodyOf Try.f107) tabR tyR true cs107 0) 3 1 (st107_1 t1 t5 t6) = c107_1 t1 t5 t6 := fun t1 t5 t6 => (Fn.labX_step _ _ _ _ _ _ _ _ _ _ (by kernel_rfl)).trans (n107_1 (F107.labM (bodyOf Try.f107) tabR tyR true cs107 0) 2 t1 t5 t6)
  show F107.body (bodyOf Try.f107) tabR tyR true cs107 (F107.labX (bodyOf Try.f107) tabR tyR true cs107 (F107.labM (bodyOf Try.f107) tabR tyR true cs107 0) 3) x = _
  rw [p107_0]
  simp only [e1]
  try rfl
theorem call107 : Callable Try.prog 107 := callable_of Try.func107 (by kernel_rfl) (by kernel_rfl)
theorem ok107 : Cal.Ok Try.prog ⟨107, F107.ps, F107.rs, F107.fr, fun a => f107 a.1 a.2.1⟩ :=
  cal_of_fn F107 (code := bodyOf Try.f107) Try.func107 (by kernel_rfl) (by kernel_rfl) call107 htabR (cs := cs107) (fun c hc => by simp only [cs107, List.not_mem_nil] at hc) (fun _ => mixed) (by kernel_rfl) (by kernel_rfl) (by decide) (fun x => ⟨0, w107 x⟩)
-- tranship/transhipref11.Kids
-- tranship/transhipref11.Inner
-- tranship/deriv.Equal
def o144_0 (a0 : Int) : Option Bool :=
  ifB (decide ((13 : Int) ≤ a0)) (
    some (decide (a0 ≤ (28 : Int)))) (
    some false)
def f144 (a0 : Int) : Option Bool := o144_0 a0
def an144 : An := .z
def F144 : Fn := { f := 144, a := an144, vars := [.tmp 2], ps := [.sc .int], rs := [.sc .bool], own := false, fr := true, nt := 9, D := 2, loops := [] }
def cs144 : List Cal := []
theorem p144_0 (lab : Nat → SS → Option (RT.den F144.rs)) (x : PTs.den F144.ps) : F144.body (bodyOf Try.f144) tabR tyR true cs144 lab x = o144_0 x.1 := by kernel_rfl
theorem w144 (x : PTs.den F144.ps) : F144.body (bodyOf Try.f144) tabR tyR true cs144 (F144.labX (bodyOf Try.f144) tabR tyR true cs144 (F144.labM (bodyOf Try.f144) tabR tyR true cs144 0) F144.D) x = o144_0 x.1 := by
  show F144.body (bodyOf Try.f144) tabR tyR true cs144 (F144.labX (bodyOf Try.f144) tabR tyR true cs144 (F144.labM (bodyOf Try.f144) tabR tyR true cs144 0) 2) x = _
  rw [p144_0]
theorem call144 : Callable Try.prog 144 := callable_of Try.func144 (by kernel_rfl) (by kernel_rfl)
theorem ok144 : Cal.Ok Try.prog ⟨144, F144.ps, F144.rs, F144.fr, fun a => f144 a.1⟩ :=
  cal_of_fn F144 (code := bodyOf Try.f144) Try.func144 (by kernel_rfl) (by kernel_rfl) call144 htabR (cs := cs144) (fun c hc => by simp only [cs144, List.not_mem_nil] at hc) (fun _ => mixed) (by kernel_rfl) (by kernel_rfl) (by decide) (fun x => ⟨0, w144 x⟩)
-- tranship/transhipref11.Equal
def o64_0 (a0 : Int) : Option Bool :=
  ifB (decide ((13 : Int) ≤ a0)) (
    some (decide (a0 ≤ (28 : Int)))) (
    some false)
def f64 (a0 : Int) : Option Bool := o64_0 a0
def an64 : An := .z
def F64 : Fn := { f := 64, a := an64, vars := [.tmp 2], ps := [.sc .int], rs := [.sc .bool], own := false, fr := true, nt := 9, D := 2, loops := [] }
def cs64 : List Cal := []
theorem p64_0 (lab : Nat → SS → Option (RT.den F64.rs)) (x : PTs.den F64.ps) : F64.body (bodyOf Try.f64) tabR tyR true cs64 lab x = o64_0 x.1 := by kernel_rfl
theorem w64 (x : PTs.den F64.ps) : F64.body (bodyOf Try.f64) tabR tyR true cs64 (F64.labX (bodyOf Try.f64) tabR tyR true cs64 (F64.labM (bodyOf Try.f64) tabR tyR true cs64 0) F64.D) x = o64_0 x.1 := by
  show F64.body (bodyOf Try.f64) tabR tyR true cs64 (F64.labX (bodyOf Try.f64) tabR tyR true cs64 (F64.labM (bodyOf Try.f64) tabR tyR true cs64 0) 2) x = _
  rw [p64_0]
theorem call64 : Callable Try.prog 64 := callable_of Try.func64 (by kernel_rfl) (by kernel_rfl)
theorem ok64 : Cal.Ok Try.prog ⟨64, F64.ps, F64.rs, F64.fr, fun a => f64 a.1⟩ :=
  cal_of_fn F64 (code := bodyOf Try.f64) Try.func64 (by kernel_rfl) (by kernel_rfl) call64 htabR (cs := cs64) (fun c hc => by simp only [cs64, List.not_mem_nil] at hc) (fun _ => mixed) (by kernel_rfl) (by kernel_rfl) (by decide) (fun x => ⟨0, w64 x⟩)
-- tranship/transhipkeep.weighDeriv
-- tranship/transhipkeep.GreatDeriv
-- tranship/deriv.Right
-- tranship/transhipkeep.Ints
-- tranship/transhipkeep.GreatFile
-- tranship/deriv.copied
-- tranship/deriv.At
-- tranship/transhipref11.numbered
-- tranship/transhipref11.Right
end Go.Proofs.Ytcaahmielncmpaa
