/-
  What the statement computes, as a plain function.
-/
import Derived.Test.YtcaahmielncmpaaGenK
import Derived.Test.YtcaahmielncmpaaGenE
import Derived.Test.YtcaahmielncmpaaTurn
set_option linter.unusedSimpArgs false
set_option linter.unusedVariables false
namespace Go.Proofs.Ytcaahmielncmpaa
open Go Go.RowKit
set_option maxRecDepth 100000
-- tranship/transhiplaw08.v
def o84_0 (a0 : Int) : Option Tm :=
  some (Tm.mk (2 : Int) a0 (0 : Int) (0 : Int) ([] : List Tm))
def f84 (a0 : Int) : Option Tm := o84_0 a0
def an84 : An := .z
def F84 : Fn := { f := 84, a := an84, vars := [.cell 2 24], ps := [.sc .int], rs := [.st .tm], own := false, fr := true, nt := 5, D := 2, loops := [] }
def cs84 : List Cal := []
theorem p84_0 (lab : Nat → SS → Option (RT.den F84.rs)) (x : PTs.den F84.ps) : F84.body (bodyOf Try.f84) tabR tyR true cs84 lab x = o84_0 x.1 := by kernel_rfl
theorem w84 (x : PTs.den F84.ps) : F84.body (bodyOf Try.f84) tabR tyR true cs84 (F84.labX (bodyOf Try.f84) tabR tyR true cs84 (F84.labM (bodyOf Try.f84) tabR tyR true cs84 0) F84.D) x = o84_0 x.1 := by
  show F84.body (bodyOf Try.f84) tabR tyR true cs84 (F84.labX (bodyOf Try.f84) tabR tyR true cs84 (F84.labM (bodyOf Try.f84) tabR tyR true cs84 0) 2) x = _
  rw [p84_0]
theorem call84 : Callable Try.prog 84 := callable_of Try.func84 (by kernel_rfl) (by kernel_rfl)
theorem ok84 : Cal.Ok Try.prog ⟨84, F84.ps, F84.rs, F84.fr, fun a => f84 a.1⟩ :=
  cal_of_fn F84 (code := bodyOf Try.f84) Try.func84 (by kernel_rfl) (by kernel_rfl) call84 htabR (cs := cs84) (fun c hc => by simp only [cs84, List.not_mem_nil] at hc) (fun _ => mixed) (by kernel_rfl) (by kernel_rfl) (by decide) (fun x => ⟨0, w84 x⟩)
-- tranship/transhiplaw08.wakes
def o28_0 (n : Nat) : Option Bool :=
  (f84 (1 : Int)).bind fun x1 =>
  (f84 (2 : Int)).bind fun x2 =>
  (f84 (3 : Int)).bind fun x3 =>
  (f84 (0 : Int)).bind fun x4 =>
  (f22 n (Tm.mk (12 : Int) (0 : Int) (0 : Int) (0 : Int) [(Tm.mk x1.kind x1.i x1.j x1.n x1.kids), (Tm.mk x2.kind x2.i x2.j x2.n x2.kids), (Tm.mk x3.kind x3.i x3.j x3.n x3.kids), (Tm.mk x4.kind x4.i x4.j x4.n x4.kids)])).bind fun x5 =>
  ifB (decide (x5.kind = (2 : Int))) (
    ifB (decide (x5.i = (0 : Int))) (
      (f27 n (Tm.mk (12 : Int) (0 : Int) (0 : Int) (0 : Int) [(Tm.mk x1.kind x1.i x1.j x1.n x1.kids), (Tm.mk x2.kind x2.i x2.j x2.n x2.kids), (Tm.mk x3.kind x3.i x3.j x3.n x3.kids), (Tm.mk x4.kind x4.i x4.j x4.n x4.kids)])).bind fun x6 =>
      ifB (decide (x6 = (1 : Int))) (
        (f84 (0 : Int)).bind fun x7 =>
        (f85 n (Tm.mk (12 : Int) (0 : Int) (0 : Int) (0 : Int) [(Tm.mk x1.kind x1.i x1.j x1.n x1.kids), (Tm.mk x2.kind x2.i x2.j x2.n x2.kids), (Tm.mk x3.kind x3.i x3.j x3.n x3.kids), (Tm.mk x4.kind x4.i x4.j x4.n x4.kids)]) x7).bind fun x8 =>
        ifB x8 (
          (f84 (1 : Int)).bind fun x9 =>
          (f85 n (Tm.mk (12 : Int) (0 : Int) (0 : Int) (0 : Int) [(Tm.mk x1.kind x1.i x1.j x1.n x1.kids), (Tm.mk x2.kind x2.i x2.j x2.n x2.kids), (Tm.mk x3.kind x3.i x3.j x3.n x3.kids), (Tm.mk x4.kind x4.i x4.j x4.n x4.kids)]) x9).bind fun x10 =>
          some (!x10)) (
          some false)) (
        some false)) (
      some false)) (
    some false)
def f28 (n : Nat) : Option Bool := o28_0 n
def an28 : An := .z
def F28 : Fn := { f := 28, a := an28, vars := [.tmp 0], ps := [], rs := [.sc .bool], own := false, fr := true, nt := 35, D := 2, loops := [] }
def cs28 (n : Nat) : List Cal := [⟨22, [.st .tm], [.st .tm], true, fun a => f22 n a.1⟩, ⟨27, [.st .tm], [.sc .int], true, fun a => f27 n a.1⟩, ⟨84, [.sc .int], [.st .tm], true, fun a => f84 a.1⟩, ⟨85, [.st .tm, .st .tm], [.sc .bool], true, fun a => f85 n a.1 a.2.1⟩]
theorem p28_0 (n : Nat) (lab : Nat → SS → Option (RT.den F28.rs)) (x : PTs.den F28.ps) : F28.body (bodyOf Try.f28) tabR tyR true (cs28 n) lab x = o28_0 n := by kernel_rfl
theorem w28 (n : Nat) (x : PTs.den F28.ps) : F28.body (bodyOf Try.f28) tabR tyR true (cs28 n) (F28.labX (bodyOf Try.f28) tabR tyR true (cs28 n) (F28.labM (bodyOf Try.f28) tabR tyR true (cs28 n) 0) F28.D) x = o28_0 n := by
  show F28.body (bodyOf Try.f28) tabR tyR true (cs28 n) (F28.labX (bodyOf Try.f28) tabR tyR true (cs28 n) (F28.labM (bodyOf Try.f28) tabR tyR true (cs28 n) 0) 2) x = _
  rw [p28_0]
theorem call28 : Callable Try.prog 28 := callable_of Try.func28 (by kernel_rfl) (by kernel_rfl)
theorem ok28 (n : Nat) : Cal.Ok Try.prog ⟨28, F28.ps, F28.rs, F28.fr, fun _ => f28 n⟩ :=
  cal_of_fn F28 (code := bodyOf Try.f28) Try.func28 (by kernel_rfl) (by kernel_rfl) call28 htabR (cs := cs28 n) (fun c hc => by
      simp only [cs28, List.mem_cons, List.not_mem_nil, or_false] at hc
      rcases hc with rfl | rfl | rfl | rfl
      · exact ok22 n
      · exact ok27 n
      · exact ok84
      · exact ok85 n) (fun _ => mixed) (by kernel_rfl) (by kernel_rfl) (by decide) (fun x => ⟨0, w28 n x⟩)
-- tranship/transhiplaw08.EraseExact
def o3_0 (n : Nat) (k1 : Tm → Tm → Int → Option Bool) (a0 : Tm) : Option Bool :=
  (f19 n a0 (250 : Int)).bind fun x1 =>
  ifB x1 (
    some true) (
    (f20 n a0).bind fun x2 =>
    (f21 n a0).bind fun x3 =>
    (f22 n x3).bind fun x4 =>
    (f23 n x4 x2).bind fun x5 =>
    ifB (!x5) (
      some false) (
      ckB (decide (Tm.size x4 ≤ BIG)) <|
      (f25 n a0).bind fun x6 =>
      ifB x6 (
        (f26 n a0).bind fun x7 =>
        k1 a0 x3 x7) (
        k1 a0 x3 (0 : Int))))
def o3_1 (n : Nat) (t1 : Tm) (t4 : Tm) (t6 : Int) : Option Bool :=
  (f23 n t4 t1).bind fun x8 =>
  ifB x8 (
    (f27 n t1).bind fun x9 =>
    ifB (decide (x9 = t6)) (
      (f28 n).bind fun x10 =>
      some x10) (
      some false)) (
    some false)
def c3_1 (n : Nat) (t1 : Tm) (t4 : Tm) (t6 : Int) : Option Bool :=
  o3_1 n t1 t4 t6
def f3 (n : Nat) (a0 : Tm) : Option Bool := o3_0 n (c3_1 n) a0
def an3 : An := (.n none [] 2 .z (.n none [] 2 .z (.n none [] 2 .z (.n none [] 1 .z (.n none [] 0 .z (.n none [] 0 .z (.n none [] 0 .z (.n none [] 0 .z (.n (some 1) [(1, .o), (4, .o), (6, .one .c)] 0 .z .z)))))))))
def F3 : Fn := { f := 3, a := an3, vars := [.tmp 2], ps := [.st .tm], rs := [.sc .bool], own := false, fr := true, nt := 37, D := 3, loops := [] }
def cs3 (n : Nat) : List Cal := [⟨19, [.st .tm, .sc .int], [.sc .bool], true, fun a => f19 n a.1 a.2.1⟩, ⟨20, [.st .tm], [.st .tm], true, fun a => f20 n a.1⟩, ⟨21, [.st .tm], [.st .tm], true, fun a => f21 n a.1⟩, ⟨22, [.st .tm], [.st .tm], true, fun a => f22 n a.1⟩, ⟨23, [.st .tm, .st .tm], [.sc .bool], true, fun a => f23 n a.1 a.2.1⟩, ⟨25, [.st .tm], [.sc .bool], true, fun a => f25 n a.1⟩, ⟨26, [.st .tm], [.sc .int], true, fun a => f26 n a.1⟩, ⟨27, [.st .tm], [.sc .int], true, fun a => f27 n a.1⟩, ⟨28, [], [.sc .bool], true, fun a => f28 n⟩]
def st3_1 (t1 : Tm) (t4 : Tm) (t6 : Int) : SS := ⟨[(1, .old (.roT .tm t1 0)), (4, .old (.roT .tm t4 0)), (6, .v (.one (.c (.int t6) true)))], [], 0⟩
theorem p3_0 (n : Nat) (lab : Nat → SS → Option (RT.den F3.rs)) (x : PTs.den F3.ps) : F3.bodyT (some 24) (bodyOf Try.f3) tabR tyR true (cs3 n) lab x = o3_0 n (fun t1 t4 t6 => lab 1 (st3_1 t1 t4 t6)) x.1 := by kernel_rfl
theorem p3_1 (n : Nat) (lab : Nat → SS → Option (RT.den F3.rs)) (t1 : Tm) (t4 : Tm) (t6 : Int) : F3.atT (some 24) (bodyOf Try.f3) tabR tyR true (cs3 n) lab 1 (st3_1 t1 t4 t6) = o3_1 n t1 t4 t6 := by kernel_rfl
theorem n3_1 (n : Nat) (rec : Nat → SS → Option (RT.den F3.rs)) (d : Nat) (t1 : Tm) (t4 : Tm) (t6 : Int) : F3.labDT (some 24) (bodyOf Try.f3) tabR tyR true (cs3 n) rec (d + 1) 1 (st3_1 t1 t4 t6) = c3_1 n t1 t4 t6 := by
  show F3.labDT (some 24) (bodyOf Try.f3) tabR tyR true (cs3 n) rec (d + 1) 1 _ = _
  rw [Fn.labDT_succ, p3_1]
  rfl
theorem w3 (n : Nat) (x : PTs.den F3.ps) : F3.bodyT (some 24) (bodyOf Try.f3) tabR tyR true (cs3 n) (F3.labXT (some 24) (bodyOf Try.f3) tabR tyR true (cs3 n) (F3.labMT (some 24) (bodyOf Try.f3) tabR tyR true (cs3 n) 0) F3.D) x = o3_0 n (c3_1 n) x.1 := by
  have e1 : ∀ t1 t4 t6, F3.labXT (some 24) (bodyOf Try.f3) tabR tyR true (cs3 n) (F3.labMT (some 24) (bodyOf Try.f3) tabR tyR true (cs3 n) 0) 3 1 (st3_1 t1 t4 t6) = c3_1 n t1 t4 t6 := fun t1 t4 t6 => (Fn.labXT_step _ _ _ _ _ _ _ _ _ _ _ (by kernel_rfl)).trans (n3_1 n (F3.labMT (some 24) (bodyOf Try.f3) tabR tyR true (cs3 n) 0) 2 t1 t4 t6)
  show F3.bodyT (some 24) (bodyOf Try.f3) tabR tyR true (cs3 n) (F3.labXT (some 24) (bodyOf Try.f3) tabR tyR true (cs3 n) (F3.labMT (some 24) (bodyOf Try.f3) tabR tyR true (cs3 n) 0) 3) x = _
  rw [p3_0]
  simp only [e1]
  try rfl
theorem call3 : Callable Try.prog 3 := callable_of Try.func3 (by kernel_rfl) (by kernel_rfl)
theorem ok3 (n : Nat) : Cal.Ok Try.prog ⟨3, F3.ps, F3.rs, F3.fr, fun a => f3 n a.1⟩ :=
  calT_of_fn F3 (sp := some 24) (fun f h => by cases h; exact spoilOK) (code := bodyOf Try.f3) Try.func3 (by kernel_rfl) (by kernel_rfl) call3 htabR (cs := cs3 n) (fun c hc => by
      simp only [cs3, List.mem_cons, List.not_mem_nil, or_false] at hc
      rcases hc with rfl | rfl | rfl | rfl | rfl | rfl | rfl | rfl | rfl
      · exact ok19 n
      · exact ok20 n
      · exact ok21 n
      · exact ok22 n
      · exact ok23 n
      · exact ok25 n
      · exact ok26 n
      · exact ok27 n
      · exact ok28 n) (fun _ => mixed) (by kernel_rfl) (by kernel_rfl) (by kernel_rfl) (by decide) (fun x => ⟨0, w3 n x⟩)
end Go.Proofs.Ytcaahmielncmpaa
