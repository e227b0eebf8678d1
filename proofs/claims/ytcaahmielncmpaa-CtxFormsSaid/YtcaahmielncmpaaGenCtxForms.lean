/-
  What the statement computes, as a plain function.
-/
import Derived.Test.YtcaahmielncmpaaGenK
import Derived.Test.YtcaahmielncmpaaGenE
import Derived.Test.YtcaahmielncmpaaGenC
set_option linter.unusedSimpArgs false
set_option linter.unusedVariables false
namespace Go.Proofs.Ytcaahmielncmpaa
open Go Go.RowKit
set_option maxRecDepth 100000
-- tranship/transhiplaw11.wakes
def o43_0 (n : Nat) (k1 : (List Ent) → Option Bool) : Option Bool :=
  k1 [(Ent.mk (Tm.mk (1 : Int) (0 : Int) (0 : Int) (0 : Int) ([] : List Tm)) (1 : Int)), (Ent.mk (Tm.mk (2 : Int) (0 : Int) (0 : Int) (0 : Int) ([] : List Tm)) (0 : Int))]
def o43_1 (n : Nat) (t1 : List Ent) : Option Bool :=
  (f39 n t1 (0 : Int)).bind fun x1 =>
  (f41 n t1).bind fun x2 =>
  ifB x2 (
    ifB (decide (x1.1.kind = (2 : Int))) (
      ifB (decide (x1.1.i = (1 : Int))) (
        ifB (decide (x1.2.1 = (0 : Int))) (
          ifB x1.2.2 (
            (f46 n t1).bind fun x3 =>
            ifB (decide ((x3.length : Int) = (2 : Int))) (
              (f45 n t1).bind fun x4 =>
              some (decide ((x4.length : Int) = (2 : Int)))) (
              some false)) (
            some false)) (
          some false)) (
        some false)) (
      some false)) (
    some false)
def c43_1 (n : Nat) (t1 : List Ent) : Option Bool :=
  o43_1 n t1
def f43 (n : Nat) : Option Bool := o43_0 n (c43_1 n)
def an43 : An := (.n none [] 0 .z (.n (some 1) [(1, .one (.d .ent true))] 0 .z .z))
def F43 : Fn := { f := 43, a := an43, vars := [.tmp 0], ps := [], rs := [.sc .bool], own := false, fr := true, nt := 47, D := 3, loops := [] }
def cs43 (n : Nat) : List Cal := [⟨39, [.sl .ent, .sc .int], [.st .tm, .sc .int, .sc .bool], true, fun a => f39 n a.1 a.2.1⟩, ⟨41, [.sl .ent], [.sc .bool], true, fun a => f41 n a.1⟩, ⟨45, [.sl .ent], [.sl .ent], true, fun a => f45 n a.1⟩, ⟨46, [.sl .ent], [.sl .tm], false, fun a => f46 n a.1⟩]
def st43_1 (t1 : List Ent) : SS := ⟨[(1, .v (.one (.c (.sl .ent t1) true)))], [], 0⟩
theorem p43_0 (n : Nat) (lab : Nat → SS → Option (RT.den F43.rs)) (x : PTs.den F43.ps) : F43.body (bodyOf Try.f43) tabR tyR true (cs43 n) lab x = o43_0 n (fun t1 => lab 1 (st43_1 t1)) := by kernel_rfl
theorem p43_1 (n : Nat) (lab : Nat → SS → Option (RT.den F43.rs)) (t1 : List Ent) : F43.at (bodyOf Try.f43) tabR tyR true (cs43 n) lab 1 (st43_1 t1) = o43_1 n t1 := by kernel_rfl
theorem n43_1 (n : Nat) (rec : Nat → SS → Option (RT.den F43.rs)) (d : Nat) (t1 : List Ent) : F43.labD (bodyOf Try.f43) tabR tyR true (cs43 n) rec (d + 1) 1 (st43_1 t1) = c43_1 n t1 := by
  show F43.labD (bodyOf Try.f43) tabR tyR true (cs43 n) rec (d + 1) 1 _ = _
  rw [Fn.labD_succ, p43_1]
  rfl
theorem w43 (n : Nat) (x : PTs.den F43.ps) : F43.body (bodyOf Try.f43) tabR tyR true (cs43 n) (F43.labX (bodyOf Try.f43) tabR tyR true (cs43 n) (F43.labM (bodyOf Try.f43) tabR tyR true (cs43 n) 0) F43.D) x = o43_0 n (c43_1 n) := by
  have e1 : ∀ t1, F43.labX (bodyOf Try.f43) tabR tyR true (cs43 n) (F43.labM (bodyOf Try.f43) tabR tyR true (cs43 n) 0) 3 1 (st43_1 t1) = c43_1 n t1 := fun t1 => (Fn.labX_step _ _ _ _ _ _ _ _ _ _ (by kernel_rfl)).trans (n43_1 n (F43.labM (bodyOf Try.f43) tabR tyR true (cs43 n) 0) 2 t1)
  show F43.body (bodyOf Try.f43) tabR tyR true (cs43 n) (F43.labX (bodyOf Try.f43) tabR tyR true (cs43 n) (F43.labM (bodyOf Try.f43) tabR tyR true (cs43 n) 0) 3) x = _
  rw [p43_0]
  simp only [e1]
  try rfl
theorem call43 : Callable Try.prog 43 := callable_of Try.func43 (by kernel_rfl) (by kernel_rfl)
theorem ok43 (n : Nat) : Cal.Ok Try.prog ⟨43, F43.ps, F43.rs, F43.fr, fun _ => f43 n⟩ :=
  cal_of_fn F43 (code := bodyOf Try.f43) Try.func43 (by kernel_rfl) (by kernel_rfl) call43 htabR (cs := cs43 n) (fun c hc => by
      simp only [cs43, List.mem_cons, List.not_mem_nil, or_false] at hc
      rcases hc with rfl | rfl | rfl | rfl
      · exact ok39 n
      · exact ok41 n
      · exact ok45 n
      · exact ok46 n) (fun _ => mixed) (by kernel_rfl) (by kernel_rfl) (by decide) (fun x => ⟨0, w43 n x⟩)
-- tranship/transhiplaw11.CtxForms
def o8_0 (n : Nat) (k1 : (List Ent) → (List Ent) → Option Bool) (a0 : List Ent) : Option Bool :=
  (f38 n a0 (300 : Int)).bind fun x1 =>
  ifB x1 (
    some true) (
    (f44 n a0).bind fun x2 =>
    k1 a0 x2)
def o8_1 (n : Nat) (k2 : (List Ent) → (List Ent) → (List Ent) → (List Tm) → Option Bool) (t0 : List Ent) (t3 : List Ent) : Option Bool :=
  (f45 n t3).bind fun x3 =>
  (f46 n t3).bind fun x4 =>
  (f48 n t0).bind fun x5 =>
  (f47 n x3 x5).bind fun x6 =>
  ifB (!x6) (
    some false) (
    (f50 n t0).bind fun x7 =>
    (f49 n x4 x7).bind fun x8 =>
    ifB (!x8) (
      some false) (
      k2 t0 t3 x3 x4))
def o8_2 (n : Nat) (t0 : List Ent) (t3 : List Ent) (t4 : List Ent) (t5 : List Tm) : Option Bool :=
  (f42 n t0).bind fun x9 =>
  ifB (!x9) (
    ckI ((t4.length : Int) + (t5.length : Int)) <|
    ifB (decide (((t4.length : Int) + (t5.length : Int)) = (0 : Int))) (
      (f43 n).bind fun x10 =>
      some x10) (
      some false)) (
    (f47 n t3 t0).bind fun x11 =>
    ifB x11 (
      (f41 n t4).bind fun x12 =>
      ifB x12 (
        ifB (decide ((t4.length : Int) = (t0.length : Int))) (
          ifB (decide ((t5.length : Int) = (t0.length : Int))) (
            (f45 n t4).bind fun x13 =>
            (f47 n x13 t4).bind fun x14 =>
            ifB x14 (
              (f43 n).bind fun x15 =>
              some x15) (
              some false)) (
            some false)) (
          some false)) (
        some false)) (
      some false))
def c8_2 (n : Nat) (t0 : List Ent) (t3 : List Ent) (t4 : List Ent) (t5 : List Tm) : Option Bool :=
  o8_2 n t0 t3 t4 t5
def c8_1 (n : Nat) (t0 : List Ent) (t3 : List Ent) : Option Bool :=
  o8_1 n (c8_2 n) t0 t3
def f8 (n : Nat) (a0 : List Ent) : Option Bool := o8_0 n (c8_1 n) a0
def an8 : An := (.n none [] 0 .z (.n none [] 0 .z (.n (some 1) [(0, .one (.d .ent false)), (3, .one (.d .ent true))] 0 .z (.n none [] 0 .z (.n (some 2) [(0, .one (.d .ent false)), (3, .one (.d .ent true)), (4, .one (.d .ent true)), (5, .one (.d .tm false))] 0 .z .z)))))
def F8 : Fn := { f := 8, a := an8, vars := [.tmp 2], ps := [.sl .ent], rs := [.sc .bool], own := false, fr := true, nt := 68, D := 4, loops := [] }
def cs8 (n : Nat) : List Cal := [⟨38, [.sl .ent, .sc .int], [.sc .bool], true, fun a => f38 n a.1 a.2.1⟩, ⟨41, [.sl .ent], [.sc .bool], true, fun a => f41 n a.1⟩, ⟨42, [.sl .ent], [.sc .bool], true, fun a => f42 n a.1⟩, ⟨43, [], [.sc .bool], true, fun a => f43 n⟩, ⟨44, [.sl .ent], [.own 45 .ent], true, fun a => f44 n a.1⟩, ⟨45, [.sl .ent], [.sl .ent], true, fun a => f45 n a.1⟩, ⟨46, [.sl .ent], [.sl .tm], false, fun a => f46 n a.1⟩, ⟨47, [.sl .ent, .sl .ent], [.sc .bool], true, fun a => f47 n a.1 a.2.1⟩, ⟨48, [.sl .ent], [.sl .ent], true, fun a => f48 n a.1⟩, ⟨49, [.sl .tm, .sl .tm], [.sc .bool], true, fun a => f49 n a.1 a.2.1⟩, ⟨50, [.sl .ent], [.sl .tm], false, fun a => f50 n a.1⟩]
def st8_1 (t0 : List Ent) (t3 : List Ent) : SS := ⟨[(0, .v (.one (.c (.sl .ent t0) false))), (3, .v (.one (.c (.sl .ent t3) true)))], [], 0⟩
def st8_2 (t0 : List Ent) (t3 : List Ent) (t4 : List Ent) (t5 : List Tm) : SS := ⟨[(0, .v (.one (.c (.sl .ent t0) false))), (3, .v (.one (.c (.sl .ent t3) true))), (4, .v (.one (.c (.sl .ent t4) true))), (5, .v (.one (.c (.sl .tm t5) false)))], [], 0⟩
theorem p8_0 (n : Nat) (lab : Nat → SS → Option (RT.den F8.rs)) (x : PTs.den F8.ps) : F8.body (bodyOf Try.f8) tabR tyR true (cs8 n) lab x = o8_0 n (fun t0 t3 => lab 1 (st8_1 t0 t3)) x.1 := by kernel_rfl
theorem p8_1 (n : Nat) (lab : Nat → SS → Option (RT.den F8.rs)) (t0 : List Ent) (t3 : List Ent) : F8.at (bodyOf Try.f8) tabR tyR true (cs8 n) lab 1 (st8_1 t0 t3) = o8_1 n (fun t0 t3 t4 t5 => lab 2 (st8_2 t0 t3 t4 t5)) t0 t3 := by kernel_rfl
theorem p8_2 (n : Nat) (lab : Nat → SS → Option (RT.den F8.rs)) (t0 : List Ent) (t3 : List Ent) (t4 : List Ent) (t5 : List Tm) : F8.at (bodyOf Try.f8) tabR tyR true (cs8 n) lab 2 (st8_2 t0 t3 t4 t5) = o8_2 n t0 t3 t4 t5 := by kernel_rfl
theorem n8_2 (n : Nat) (rec : Nat → SS → Option (RT.den F8.rs)) (d : Nat) (t0 : List Ent) (t3 : List Ent) (t4 : List Ent) (t5 : List Tm) : F8.labD (bodyOf Try.f8) tabR tyR true (cs8 n) rec (d + 1) 2 (st8_2 t0 t3 t4 t5) = c8_2 n t0 t3 t4 t5 := by
  show F8.labD (bodyOf Try.f8) tabR tyR true (cs8 n) rec (d + 1) 2 _ = _
  rw [Fn.labD_succ, p8_2]
  rfl
theorem n8_1 (n : Nat) (rec : Nat → SS → Option (RT.den F8.rs)) (d : Nat) (t0 : List Ent) (t3 : List Ent) : F8.labD (bodyOf Try.f8) tabR tyR true (cs8 n) rec (d + 2) 1 (st8_1 t0 t3) = c8_1 n t0 t3 := by
  have e2 : ∀ t0 t3 t4 t5, F8.labX (bodyOf Try.f8) tabR tyR true (cs8 n) rec (d + 1) 2 (st8_2 t0 t3 t4 t5) = c8_2 n t0 t3 t4 t5 := fun t0 t3 t4 t5 => (Fn.labX_step _ _ _ _ _ _ _ _ _ _ (by kernel_rfl)).trans (n8_2 n rec d t0 t3 t4 t5)
  show F8.labD (bodyOf Try.f8) tabR tyR true (cs8 n) rec ((d + 1) + 1) 1 _ = _
  rw [Fn.labD_succ, p8_1]
  simp only [e2]
  rfl
theorem w8 (n : Nat) (x : PTs.den F8.ps) : F8.body (bodyOf Try.f8) tabR tyR true (cs8 n) (F8.labX (bodyOf Try.f8) tabR tyR true (cs8 n) (F8.labM (bodyOf Try.f8) tabR tyR true (cs8 n) 0) F8.D) x = o8_0 n (c8_1 n) x.1 := by
  have e1 : ∀ t0 t3, F8.labX (bodyOf Try.f8) tabR tyR true (cs8 n) (F8.labM (bodyOf Try.f8) tabR tyR true (cs8 n) 0) 4 1 (st8_1 t0 t3) = c8_1 n t0 t3 := fun t0 t3 => (Fn.labX_step _ _ _ _ _ _ _ _ _ _ (by kernel_rfl)).trans (n8_1 n (F8.labM (bodyOf Try.f8) tabR tyR true (cs8 n) 0) 2 t0 t3)
  show F8.body (bodyOf Try.f8) tabR tyR true (cs8 n) (F8.labX (bodyOf Try.f8) tabR tyR true (cs8 n) (F8.labM (bodyOf Try.f8) tabR tyR true (cs8 n) 0) 4) x = _
  rw [p8_0]
  simp only [e1]
  try rfl
theorem call8 : Callable Try.prog 8 := callable_of Try.func8 (by kernel_rfl) (by kernel_rfl)
theorem ok8 (n : Nat) : Cal.Ok Try.prog ⟨8, F8.ps, F8.rs, F8.fr, fun a => f8 n a.1⟩ :=
  cal_of_fn F8 (code := bodyOf Try.f8) Try.func8 (by kernel_rfl) (by kernel_rfl) call8 htabR (cs := cs8 n) (fun c hc => by
      simp only [cs8, List.mem_cons, List.not_mem_nil, or_false] at hc
      rcases hc with rfl | rfl | rfl | rfl | rfl | rfl | rfl | rfl | rfl | rfl | rfl
      · exact ok38 n
      · exact ok41 n
      · exact ok42 n
      · exact ok43 n
      · exact ok44 n
      · exact ok45 n
      · exact ok46 n
      · exact ok47 n
      · exact ok48 n
      · exact ok49 n
      · exact ok50 n) (fun _ => mixed) (by kernel_rfl) (by kernel_rfl) (by decide) (fun x => ⟨0, w8 n x⟩)
end Go.Proofs.Ytcaahmielncmpaa
