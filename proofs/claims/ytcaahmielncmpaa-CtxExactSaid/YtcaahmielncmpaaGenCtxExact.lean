/-
  What the statement computes, as a plain function.
-/
import Derived.Test.YtcaahmielncmpaaGenK
import Derived.Test.YtcaahmielncmpaaGenE
import Derived.Test.YtcaahmielncmpaaGenC
set_option linter.unusedSimpArgs false
set_option linter.unusedVariables false
namespace Go.Proofs.Ytcaahmielncmpaa
open Go Go.RowKit
set_option maxRecDepth 100000
-- tranship/transhiplaw11.wakes
def o43_0 (n : Nat) (k1 : (List Ent) → Option Bool) : Option Bool :=
  k1 [(Ent.mk (Tm.mk (1 : Int) (0 : Int) (0 : Int) (0 : Int) ([] : List Tm)) (1 : Int)), (Ent.mk (Tm.mk (2 : Int) (0 : Int) (0 : Int) (0 : Int) ([] : List Tm)) (0 : Int))]
def o43_1 (n : Nat) (t1 : List Ent) : Option Bool :=
  (f39 n t1 (0 : Int)).bind fun x1 =>
  (f41 n t1).bind fun x2 =>
  ifB x2 (
    ifB (decide (x1.1.kind = (2 : Int))) (
      ifB (decide (x1.1.i = (1 : Int))) (
        ifB (decide (x1.2.1 = (0 : Int))) (
          ifB x1.2.2 (
            (f46 n t1).bind fun x3 =>
            ifB (decide ((x3.length : Int) = (2 : Int))) (
              (f45 n t1).bind fun x4 =>
              some (decide ((x4.length : Int) = (2 : Int)))) (
              some false)) (
            some false)) (
          some false)) (
        some false)) (
      some false)) (
    some false)
def c43_1 (n : Nat) (t1 : List Ent) : Option Bool :=
  o43_1 n t1
def f43 (n : Nat) : Option Bool := o43_0 n (c43_1 n)
def an43 : An := (.n none [] 0 .z (.n (some 1) [(1, .one (.d .ent true))] 0 .z .z))
def F43 : Fn := { f := 43, a := an43, vars := [.tmp 0], ps := [], rs := [.sc .bool], own := false, fr := true, nt := 47, D := 3, loops := [] }
def cs43 (n : Nat) : List Cal := [⟨39, [.sl .ent, .sc .int], [.st .tm, .sc .int, .sc .bool], true, fun a => f39 n a.1 a.2.1⟩, ⟨41, [.sl .ent], [.sc .bool], true, fun a => f41 n a.1⟩, ⟨45, [.sl .ent], [.sl .ent], true, fun a => f45 n a.1⟩, ⟨46, [.sl .ent], [.sl .tm], false, fun a => f46 n a.1⟩]
def st43_1 (t1 : List Ent) : SS := ⟨[(1, .v (.one (.c (.sl .ent t1) true)))], [], 0⟩
theorem p43_0 (n : Nat) (lab : Nat → SS → Option (RT.den F43.rs)) (x : PTs.den F43.ps) : F43.body (bodyOf Try.f43) tabR tyR true (cs43 n) lab x = o43_0 n (fun t1 => lab 1 (st43_1 t1)) := by kernel_rfl
theorem p43_1 (n : Nat) (lab : Nat → SS → Option (RT.den F43.rs)) (t1 : List Ent) : F43.at (bodyOf Try.f43) tabR tyR true (cs43 n) lab 1 (st43_1 t1) = o43_1 n t1 := by kernel_rfl
theorem n43_1 (n : Nat) (rec : Nat → SS → Option (RT.den F43.rs)) (d : Nat) (t1 : List Ent) : F43.labD (bodyOf Try.f43) tabR tyR true (cs43 n) rec (d + 1) 1 (st43_1 t1) = c43_1 n t1 := by
  show F43.labD (bodyOf Try.f43) tabR tyR true (cs43 n) rec (d + 1) 1 _ = _
  rw [Fn.labD_succ, p43_1]
  rfl
theorem w43 (n : Nat) (x : PTs.den F43.ps) : F43.body (bodyOf Try.f43) tabR tyR true (cs43 n) (F43.labX (bodyOf Try.f43) tabR tyR true (cs43 n) (F43.labM (bodyOf Try.f43) tabR tyR true (cs43 n) 0) F43.D) x = o43_0 n (c43_1 n) := by
  have e1 : ∀ t1, F43.labX (bodyOf Try.f43) tabR tyR true (cs43 n) (F43.labM (bodyOf Try.f43) tabR tyR true (cs43 n) 0) 3 1 (st43_1 t1) = c43_1 n t1 := fun t1 => (Fn.labX_step _ _ _ _ _ _ _ _ _ _ (by kernel_rfl)).trans (n43_1 n (F43.labM (bodyOf Try.f43) tabR tyR true (cs43 n) 0) 2 t1)
  show F43.body (bodyOf Try.f43) tabR tyR true (cs43 n) (F43.labX (bodyOf Try.f43) tabR tyR true (cs43 n) (F43.labM (bodyOf Try.f43) tabR tyR true (cs43 n) 0) 3) x = _
  rw [p43_0]
  simp only [e1]
  try rfl
theorem call43 : Callable Try.prog 43 := callable_of Try.func43 (by kernel_rfl) (by kernel_rfl)
theorem ok43 (n : Nat) : Cal.Ok Try.prog ⟨43, F43.ps, F43.rs, F43.fr, fun _ => f43 n⟩ :=
  cal_of_fn F43 (code := bodyOf Try.f43) Try.func43 (by kernel_rfl) (by kernel_rfl) call43 htabR (cs := cs43 n) (fun c hc => by
      simp only [cs43, List.mem_cons, List.not_mem_nil, or_false] at hc
      rcases hc with rfl | rfl | rfl | rfl
      · exact ok39 n
      · exact ok41 n
      · exact ok45 n
      · exact ok46 n) (fun _ => mixed) (by kernel_rfl) (by kernel_rfl) (by decide) (fun x => ⟨0, w43 n x⟩)
-- tranship/transhiplaw11.CtxExact
def o7_0 (n : Nat) (a0 : List Ent) (a1 : Int) : Option Bool :=
  (f38 n a0 (300 : Int)).bind fun x1 =>
  ifB x1 (
    some true) (
    (f39 n a0 a1).bind fun x2 =>
    (f40 n a0 a1).bind fun x3 =>
    (f41 n a0).bind fun x4 =>
    (f42 n a0).bind fun x5 =>
    ifB (x4 == x5) (
      ifB (x2.2.2 == x3.2.2) (
        ifB (decide (x2.2.1 = x3.2.1)) (
          (f23 n x2.1 x3.1).bind fun x6 =>
          ifB x6 (
            (f43 n).bind fun x7 =>
            some x7) (
            some false)) (
          some false)) (
        some false)) (
      some false))
def f7 (n : Nat) (a0 : List Ent) (a1 : Int) : Option Bool := o7_0 n a0 a1
def an7 : An := .z
def F7 : Fn := { f := 7, a := an7, vars := [.tmp 4], ps := [.sl .ent, .sc .int], rs := [.sc .bool], own := false, fr := true, nt := 50, D := 2, loops := [] }
def cs7 (n : Nat) : List Cal := [⟨23, [.st .tm, .st .tm], [.sc .bool], true, fun a => f23 n a.1 a.2.1⟩, ⟨38, [.sl .ent, .sc .int], [.sc .bool], true, fun a => f38 n a.1 a.2.1⟩, ⟨39, [.sl .ent, .sc .int], [.st .tm, .sc .int, .sc .bool], true, fun a => f39 n a.1 a.2.1⟩, ⟨40, [.sl .ent, .sc .int], [.st .tm, .sc .int, .sc .bool], true, fun a => f40 n a.1 a.2.1⟩, ⟨41, [.sl .ent], [.sc .bool], true, fun a => f41 n a.1⟩, ⟨42, [.sl .ent], [.sc .bool], true, fun a => f42 n a.1⟩, ⟨43, [], [.sc .bool], true, fun a => f43 n⟩]
theorem p7_0 (n : Nat) (lab : Nat → SS → Option (RT.den F7.rs)) (x : PTs.den F7.ps) : F7.body (bodyOf Try.f7) tabR tyR true (cs7 n) lab x = o7_0 n x.1 x.2.1 := by kernel_rfl
theorem w7 (n : Nat) (x : PTs.den F7.ps) : F7.body (bodyOf Try.f7) tabR tyR true (cs7 n) (F7.labX (bodyOf Try.f7) tabR tyR true (cs7 n) (F7.labM (bodyOf Try.f7) tabR tyR true (cs7 n) 0) F7.D) x = o7_0 n x.1 x.2.1 := by
  show F7.body (bodyOf Try.f7) tabR tyR true (cs7 n) (F7.labX (bodyOf Try.f7) tabR tyR true (cs7 n) (F7.labM (bodyOf Try.f7) tabR tyR true (cs7 n) 0) 2) x = _
  rw [p7_0]
theorem call7 : Callable Try.prog 7 := callable_of Try.func7 (by kernel_rfl) (by kernel_rfl)
theorem ok7 (n : Nat) : Cal.Ok Try.prog ⟨7, F7.ps, F7.rs, F7.fr, fun a => f7 n a.1 a.2.1⟩ :=
  cal_of_fn F7 (code := bodyOf Try.f7) Try.func7 (by kernel_rfl) (by kernel_rfl) call7 htabR (cs := cs7 n) (fun c hc => by
      simp only [cs7, List.mem_cons, List.not_mem_nil, or_false] at hc
      rcases hc with rfl | rfl | rfl | rfl | rfl | rfl | rfl
      · exact ok23 n
      · exact ok38 n
      · exact ok39 n
      · exact ok40 n
      · exact ok41 n
      · exact ok42 n
      · exact ok43 n) (fun _ => mixed) (by kernel_rfl) (by kernel_rfl) (by decide) (fun x => ⟨0, w7 n x⟩)
end Go.Proofs.Ytcaahmielncmpaa
