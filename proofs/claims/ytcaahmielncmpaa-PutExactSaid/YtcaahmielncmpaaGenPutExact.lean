/-
  What the statement computes, as a plain function.
-/
import Derived.Test.YtcaahmielncmpaaGenK
import Derived.Test.YtcaahmielncmpaaGenE
import Derived.Test.YtcaahmielncmpaaTurn
set_option linter.unusedSimpArgs false
set_option linter.unusedVariables false
namespace Go.Proofs.Ytcaahmielncmpaa
open Go Go.RowKit
set_option maxRecDepth 100000
-- tranship/transhiplaw07.v
def o98_0 (a0 : Int) : Option Tm :=
  some (Tm.mk (2 : Int) a0 (0 : Int) (0 : Int) ([] : List Tm))
def f98 (a0 : Int) : Option Tm := o98_0 a0
def an98 : An := .z
def F98 : Fn := { f := 98, a := an98, vars := [.cell 2 24], ps := [.sc .int], rs := [.st .tm], own := false, fr := true, nt := 5, D := 2, loops := [] }
def cs98 : List Cal := []
theorem p98_0 (lab : Nat → SS → Option (RT.den F98.rs)) (x : PTs.den F98.ps) : F98.body (bodyOf Try.f98) tabR tyR true cs98 lab x = o98_0 x.1 := by kernel_rfl
theorem w98 (x : PTs.den F98.ps) : F98.body (bodyOf Try.f98) tabR tyR true cs98 (F98.labX (bodyOf Try.f98) tabR tyR true cs98 (F98.labM (bodyOf Try.f98) tabR tyR true cs98 0) F98.D) x = o98_0 x.1 := by
  show F98.body (bodyOf Try.f98) tabR tyR true cs98 (F98.labX (bodyOf Try.f98) tabR tyR true cs98 (F98.labM (bodyOf Try.f98) tabR tyR true cs98 0) 2) x = _
  rw [p98_0]
theorem call98 : Callable Try.prog 98 := callable_of Try.func98 (by kernel_rfl) (by kernel_rfl)
theorem ok98 : Cal.Ok Try.prog ⟨98, F98.ps, F98.rs, F98.fr, fun a => f98 a.1⟩ :=
  cal_of_fn F98 (code := bodyOf Try.f98) Try.func98 (by kernel_rfl) (by kernel_rfl) call98 htabR (cs := cs98) (fun c hc => by simp only [cs98, List.not_mem_nil] at hc) (fun _ => mixed) (by kernel_rfl) (by kernel_rfl) (by decide) (fun x => ⟨0, w98 x⟩)
-- tranship/transhiplaw07.wakes
def o37_0 (n : Nat) : Option Bool :=
  (f98 (0 : Int)).bind fun x1 =>
  (f98 (1 : Int)).bind fun x2 =>
  (f36 n (Tm.mk (15 : Int) (0 : Int) (0 : Int) (0 : Int) [(Tm.mk x1.kind x1.i x1.j x1.n x1.kids), (Tm.mk x2.kind x2.i x2.j x2.n x2.kids)]) (Tm.mk (1 : Int) (3 : Int) (0 : Int) (0 : Int) ([] : List Tm))).bind fun x3 =>
  ifB (decide (x3.kind = (15 : Int))) (
    ifB (decide ((x3.kids.length : Int) = (2 : Int))) (
      atI x3.kids (0 : Int) fun x4 =>
      ifB (decide (x4.i = (3 : Int))) (
        atI x3.kids (0 : Int) fun x5 =>
        ifB (decide (x5.kind = (1 : Int))) (
          atI x3.kids (1 : Int) fun x6 =>
          ifB (decide (x6.kind = (2 : Int))) (
            atI x3.kids (1 : Int) fun x7 =>
            some (decide (x7.i = (0 : Int)))) (
            some false)) (
          some false)) (
        some false)) (
      some false)) (
    some false)
def f37 (n : Nat) : Option Bool := o37_0 n
def an37 : An := .z
def F37 : Fn := { f := 37, a := an37, vars := [.tmp 0], ps := [], rs := [.sc .bool], own := false, fr := true, nt := 49, D := 2, loops := [] }
def cs37 (n : Nat) : List Cal := [⟨36, [.st .tm, .st .tm], [.st .tm], true, fun a => f36 n a.1 a.2.1⟩, ⟨98, [.sc .int], [.st .tm], true, fun a => f98 a.1⟩]
theorem p37_0 (n : Nat) (lab : Nat → SS → Option (RT.den F37.rs)) (x : PTs.den F37.ps) : F37.body (bodyOf Try.f37) tabR tyR true (cs37 n) lab x = o37_0 n := by kernel_rfl
theorem w37 (n : Nat) (x : PTs.den F37.ps) : F37.body (bodyOf Try.f37) tabR tyR true (cs37 n) (F37.labX (bodyOf Try.f37) tabR tyR true (cs37 n) (F37.labM (bodyOf Try.f37) tabR tyR true (cs37 n) 0) F37.D) x = o37_0 n := by
  show F37.body (bodyOf Try.f37) tabR tyR true (cs37 n) (F37.labX (bodyOf Try.f37) tabR tyR true (cs37 n) (F37.labM (bodyOf Try.f37) tabR tyR true (cs37 n) 0) 2) x = _
  rw [p37_0]
theorem call37 : Callable Try.prog 37 := callable_of Try.func37 (by kernel_rfl) (by kernel_rfl)
theorem ok37 (n : Nat) : Cal.Ok Try.prog ⟨37, F37.ps, F37.rs, F37.fr, fun _ => f37 n⟩ :=
  cal_of_fn F37 (code := bodyOf Try.f37) Try.func37 (by kernel_rfl) (by kernel_rfl) call37 htabR (cs := cs37 n) (fun c hc => by
      simp only [cs37, List.mem_cons, List.not_mem_nil, or_false] at hc
      rcases hc with rfl | rfl
      · exact ok36 n
      · exact ok98) (fun _ => mixed) (by kernel_rfl) (by kernel_rfl) (by decide) (fun x => ⟨0, w37 n x⟩)
-- tranship/transhiplaw07.PutExact
def o6_0 (n : Nat) (a0 : Tm) (a1 : Tm) : Option Bool :=
  (f19 n a0 (120 : Int)).bind fun x1 =>
  ifB x1 (
    some true) (
    (f19 n a1 (120 : Int)).bind fun x2 =>
    ifB x2 (
      some true) (
      (f35 n a0 a1).bind fun x3 =>
      (f21 n a0).bind fun x4 =>
      (f21 n a1).bind fun x5 =>
      (f36 n x4 x5).bind fun x6 =>
      (f23 n x6 x3).bind fun x7 =>
      ifB (!x7) (
        some false) (
        ckB (decide (Tm.size x6 ≤ BIG)) <|
        (f23 n x4 a0).bind fun x8 =>
        ifB x8 (
          (f23 n x5 a1).bind fun x9 =>
          ifB x9 (
            (f37 n).bind fun x10 =>
            some x10) (
            some false)) (
          some false))))
def f6 (n : Nat) (a0 : Tm) (a1 : Tm) : Option Bool := o6_0 n a0 a1
def an6 : An := (.n none [] 2 .z (.n none [] 2 .z (.n none [] 2 .z (.n none [] 1 .z .z))))
def F6 : Fn := { f := 6, a := an6, vars := [.tmp 4], ps := [.st .tm, .st .tm], rs := [.sc .bool], own := false, fr := true, nt := 42, D := 2, loops := [] }
def cs6 (n : Nat) : List Cal := [⟨19, [.st .tm, .sc .int], [.sc .bool], true, fun a => f19 n a.1 a.2.1⟩, ⟨21, [.st .tm], [.st .tm], true, fun a => f21 n a.1⟩, ⟨23, [.st .tm, .st .tm], [.sc .bool], true, fun a => f23 n a.1 a.2.1⟩, ⟨35, [.st .tm, .st .tm], [.st .tm], false, fun a => f35 n a.1 a.2.1⟩, ⟨36, [.st .tm, .st .tm], [.st .tm], true, fun a => f36 n a.1 a.2.1⟩, ⟨37, [], [.sc .bool], true, fun a => f37 n⟩]
theorem p6_0 (n : Nat) (lab : Nat → SS → Option (RT.den F6.rs)) (x : PTs.den F6.ps) : F6.bodyT (some 24) (bodyOf Try.f6) tabR tyR true (cs6 n) lab x = o6_0 n x.1 x.2.1 := by kernel_rfl
theorem w6 (n : Nat) (x : PTs.den F6.ps) : F6.bodyT (some 24) (bodyOf Try.f6) tabR tyR true (cs6 n) (F6.labXT (some 24) (bodyOf Try.f6) tabR tyR true (cs6 n) (F6.labMT (some 24) (bodyOf Try.f6) tabR tyR true (cs6 n) 0) F6.D) x = o6_0 n x.1 x.2.1 := by
  show F6.bodyT (some 24) (bodyOf Try.f6) tabR tyR true (cs6 n) (F6.labXT (some 24) (bodyOf Try.f6) tabR tyR true (cs6 n) (F6.labMT (some 24) (bodyOf Try.f6) tabR tyR true (cs6 n) 0) 2) x = _
  rw [p6_0]
theorem call6 : Callable Try.prog 6 := callable_of Try.func6 (by kernel_rfl) (by kernel_rfl)
theorem ok6 (n : Nat) : Cal.Ok Try.prog ⟨6, F6.ps, F6.rs, F6.fr, fun a => f6 n a.1 a.2.1⟩ :=
  calT_of_fn F6 (sp := some 24) (fun f h => by cases h; exact spoilOK) (code := bodyOf Try.f6) Try.func6 (by kernel_rfl) (by kernel_rfl) call6 htabR (cs := cs6 n) (fun c hc => by
      simp only [cs6, List.mem_cons, List.not_mem_nil, or_false] at hc
      rcases hc with rfl | rfl | rfl | rfl | rfl | rfl
      · exact ok19 n
      · exact ok21 n
      · exact ok23 n
      · exact ok35 n
      · exact ok36 n
      · exact ok37 n) (fun _ => mixed) (by kernel_rfl) (by kernel_rfl) (by kernel_rfl) (by decide) (fun x => ⟨0, w6 n x⟩)
end Go.Proofs.Ytcaahmielncmpaa
