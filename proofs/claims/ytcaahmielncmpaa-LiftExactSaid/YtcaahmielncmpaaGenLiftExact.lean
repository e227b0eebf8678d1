/-
  What the statement computes, as a plain function.
-/
import Derived.Test.YtcaahmielncmpaaGenK
import Derived.Test.YtcaahmielncmpaaGenE
import Derived.Test.YtcaahmielncmpaaTurn
set_option linter.unusedSimpArgs false
set_option linter.unusedVariables false
namespace Go.Proofs.Ytcaahmielncmpaa
open Go Go.RowKit
set_option maxRecDepth 100000
-- tranship/transhiplaw05.v
def o93_0 (a0 : Int) : Option Tm :=
  some (Tm.mk (2 : Int) a0 (0 : Int) (0 : Int) ([] : List Tm))
def f93 (a0 : Int) : Option Tm := o93_0 a0
def an93 : An := .z
def F93 : Fn := { f := 93, a := an93, vars := [.cell 2 24], ps := [.sc .int], rs := [.st .tm], own := false, fr := true, nt := 5, D := 2, loops := [] }
def cs93 : List Cal := []
theorem p93_0 (lab : Nat → SS → Option (RT.den F93.rs)) (x : PTs.den F93.ps) : F93.body (bodyOf Try.f93) tabR tyR true cs93 lab x = o93_0 x.1 := by kernel_rfl
theorem w93 (x : PTs.den F93.ps) : F93.body (bodyOf Try.f93) tabR tyR true cs93 (F93.labX (bodyOf Try.f93) tabR tyR true cs93 (F93.labM (bodyOf Try.f93) tabR tyR true cs93 0) F93.D) x = o93_0 x.1 := by
  show F93.body (bodyOf Try.f93) tabR tyR true cs93 (F93.labX (bodyOf Try.f93) tabR tyR true cs93 (F93.labM (bodyOf Try.f93) tabR tyR true cs93 0) 2) x = _
  rw [p93_0]
theorem call93 : Callable Try.prog 93 := callable_of Try.func93 (by kernel_rfl) (by kernel_rfl)
theorem ok93 : Cal.Ok Try.prog ⟨93, F93.ps, F93.rs, F93.fr, fun a => f93 a.1⟩ :=
  cal_of_fn F93 (code := bodyOf Try.f93) Try.func93 (by kernel_rfl) (by kernel_rfl) call93 htabR (cs := cs93) (fun c hc => by simp only [cs93, List.not_mem_nil] at hc) (fun _ => mixed) (by kernel_rfl) (by kernel_rfl) (by decide) (fun x => ⟨0, w93 x⟩)
-- tranship/transhiplaw05.wakes
def o34_0 (n : Nat) : Option Bool :=
  (f93 (0 : Int)).bind fun x1 =>
  (f93 (1 : Int)).bind fun x2 =>
  (f33 n (Tm.mk (14 : Int) (0 : Int) (0 : Int) (0 : Int) [(Tm.mk (1 : Int) (0 : Int) (0 : Int) (0 : Int) ([] : List Tm)), (Tm.mk (15 : Int) (0 : Int) (0 : Int) (0 : Int) [(Tm.mk x1.kind x1.i x1.j x1.n x1.kids), (Tm.mk x2.kind x2.i x2.j x2.n x2.kids)])]) (2 : Int) (0 : Int)).bind fun x3 =>
  (f94 n (Tm.mk (14 : Int) (0 : Int) (0 : Int) (0 : Int) [(Tm.mk (1 : Int) (0 : Int) (0 : Int) (0 : Int) ([] : List Tm)), (Tm.mk (15 : Int) (0 : Int) (0 : Int) (0 : Int) [(Tm.mk x1.kind x1.i x1.j x1.n x1.kids), (Tm.mk x2.kind x2.i x2.j x2.n x2.kids)])]) [(5 : Int)]).bind fun x4 =>
  ifB (decide ((x3.kids.length : Int) = (2 : Int))) (
    atI x3.kids (1 : Int) fun x5 =>
    ifB (decide ((x5.kids.length : Int) = (2 : Int))) (
      atI x3.kids (1 : Int) fun x6 =>
      atI x6.kids (1 : Int) fun x7 =>
      ifB (decide (x7.i = (3 : Int))) (
        atI x3.kids (1 : Int) fun x8 =>
        atI x8.kids (0 : Int) fun x9 =>
        ifB (decide (x9.i = (0 : Int))) (
          ifB x4.2 (
            ifB (decide ((x4.1.kids.length : Int) = (2 : Int))) (
              atI x4.1.kids (1 : Int) fun x10 =>
              ifB (decide ((x10.kids.length : Int) = (2 : Int))) (
                atI x4.1.kids (1 : Int) fun x11 =>
                atI x11.kids (1 : Int) fun x12 =>
                some (decide (x12.i = (6 : Int)))) (
                some false)) (
              some false)) (
            some false)) (
          some false)) (
        some false)) (
      some false)) (
    some false)
def f34 (n : Nat) : Option Bool := o34_0 n
def an34 : An := .z
def F34 : Fn := { f := 34, a := an34, vars := [.tmp 0], ps := [], rs := [.sc .bool], own := false, fr := true, nt := 84, D := 2, loops := [] }
def cs34 (n : Nat) : List Cal := [⟨33, [.st .tm, .sc .int, .sc .int], [.st .tm], true, fun a => f33 n a.1 a.2.1 a.2.2.1⟩, ⟨93, [.sc .int], [.st .tm], true, fun a => f93 a.1⟩, ⟨94, [.st .tm, .sl .int], [.st .tm, .sc .bool], true, fun a => f94 n a.1 a.2.1⟩]
theorem p34_0 (n : Nat) (lab : Nat → SS → Option (RT.den F34.rs)) (x : PTs.den F34.ps) : F34.body (bodyOf Try.f34) tabR tyR true (cs34 n) lab x = o34_0 n := by kernel_rfl
theorem w34 (n : Nat) (x : PTs.den F34.ps) : F34.body (bodyOf Try.f34) tabR tyR true (cs34 n) (F34.labX (bodyOf Try.f34) tabR tyR true (cs34 n) (F34.labM (bodyOf Try.f34) tabR tyR true (cs34 n) 0) F34.D) x = o34_0 n := by
  show F34.body (bodyOf Try.f34) tabR tyR true (cs34 n) (F34.labX (bodyOf Try.f34) tabR tyR true (cs34 n) (F34.labM (bodyOf Try.f34) tabR tyR true (cs34 n) 0) 2) x = _
  rw [p34_0]
theorem call34 : Callable Try.prog 34 := callable_of Try.func34 (by kernel_rfl) (by kernel_rfl)
theorem ok34 (n : Nat) : Cal.Ok Try.prog ⟨34, F34.ps, F34.rs, F34.fr, fun _ => f34 n⟩ :=
  cal_of_fn F34 (code := bodyOf Try.f34) Try.func34 (by kernel_rfl) (by kernel_rfl) call34 htabR (cs := cs34 n) (fun c hc => by
      simp only [cs34, List.mem_cons, List.not_mem_nil, or_false] at hc
      rcases hc with rfl | rfl | rfl
      · exact ok33 n
      · exact ok93
      · exact ok94 n) (fun _ => mixed) (by kernel_rfl) (by kernel_rfl) (by decide) (fun x => ⟨0, w34 n x⟩)
-- tranship/transhiplaw05.LiftExact
def o5_0 (n : Nat) (a0 : Tm) (a1 : Int) (a2 : Int) : Option Bool :=
  (f19 n a0 (300 : Int)).bind fun x1 =>
  ifB x1 (
    some true) (
    (f32 n a0 a1 a2).bind fun x2 =>
    (f21 n a0).bind fun x3 =>
    (f33 n x3 a1 a2).bind fun x4 =>
    (f23 n x4 x2).bind fun x5 =>
    ifB (!x5) (
      some false) (
      ckB (decide (Tm.size x4 ≤ BIG)) <|
      (f23 n x3 a0).bind fun x6 =>
      ifB x6 (
        (f33 n a0 a1 a2).bind fun x7 =>
        (f23 n x7 x2).bind fun x8 =>
        ifB x8 (
          (f34 n).bind fun x9 =>
          some x9) (
          some false)) (
        some false)))
def f5 (n : Nat) (a0 : Tm) (a1 : Int) (a2 : Int) : Option Bool := o5_0 n a0 a1 a2
def an5 : An := (.n none [] 2 .z (.n none [] 2 .z (.n none [] 2 .z (.n none [] 1 .z .z))))
def F5 : Fn := { f := 5, a := an5, vars := [.tmp 6], ps := [.st .tm, .sc .int, .sc .int], rs := [.sc .bool], own := false, fr := true, nt := 42, D := 2, loops := [] }
def cs5 (n : Nat) : List Cal := [⟨19, [.st .tm, .sc .int], [.sc .bool], true, fun a => f19 n a.1 a.2.1⟩, ⟨21, [.st .tm], [.st .tm], true, fun a => f21 n a.1⟩, ⟨23, [.st .tm, .st .tm], [.sc .bool], true, fun a => f23 n a.1 a.2.1⟩, ⟨32, [.st .tm, .sc .int, .sc .int], [.st .tm], true, fun a => f32 n a.1 a.2.1 a.2.2.1⟩, ⟨33, [.st .tm, .sc .int, .sc .int], [.st .tm], true, fun a => f33 n a.1 a.2.1 a.2.2.1⟩, ⟨34, [], [.sc .bool], true, fun a => f34 n⟩]
theorem p5_0 (n : Nat) (lab : Nat → SS → Option (RT.den F5.rs)) (x : PTs.den F5.ps) : F5.bodyT (some 24) (bodyOf Try.f5) tabR tyR true (cs5 n) lab x = o5_0 n x.1 x.2.1 x.2.2.1 := by kernel_rfl
theorem w5 (n : Nat) (x : PTs.den F5.ps) : F5.bodyT (some 24) (bodyOf Try.f5) tabR tyR true (cs5 n) (F5.labXT (some 24) (bodyOf Try.f5) tabR tyR true (cs5 n) (F5.labMT (some 24) (bodyOf Try.f5) tabR tyR true (cs5 n) 0) F5.D) x = o5_0 n x.1 x.2.1 x.2.2.1 := by
  show F5.bodyT (some 24) (bodyOf Try.f5) tabR tyR true (cs5 n) (F5.labXT (some 24) (bodyOf Try.f5) tabR tyR true (cs5 n) (F5.labMT (some 24) (bodyOf Try.f5) tabR tyR true (cs5 n) 0) 2) x = _
  rw [p5_0]
theorem call5 : Callable Try.prog 5 := callable_of Try.func5 (by kernel_rfl) (by kernel_rfl)
theorem ok5 (n : Nat) : Cal.Ok Try.prog ⟨5, F5.ps, F5.rs, F5.fr, fun a => f5 n a.1 a.2.1 a.2.2.1⟩ :=
  calT_of_fn F5 (sp := some 24) (fun f h => by cases h; exact spoilOK) (code := bodyOf Try.f5) Try.func5 (by kernel_rfl) (by kernel_rfl) call5 htabR (cs := cs5 n) (fun c hc => by
      simp only [cs5, List.mem_cons, List.not_mem_nil, or_false] at hc
      rcases hc with rfl | rfl | rfl | rfl | rfl | rfl
      · exact ok19 n
      · exact ok21 n
      · exact ok23 n
      · exact ok32 n
      · exact ok33 n
      · exact ok34 n) (fun _ => mixed) (by kernel_rfl) (by kernel_rfl) (by kernel_rfl) (by decide) (fun x => ⟨0, w5 n x⟩)
end Go.Proofs.Ytcaahmielncmpaa
