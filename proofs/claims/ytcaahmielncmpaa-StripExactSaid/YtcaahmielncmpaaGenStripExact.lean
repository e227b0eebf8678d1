/-
  What the statement computes, as a plain function.
-/
import Derived.Test.YtcaahmielncmpaaGenK
import Derived.Test.YtcaahmielncmpaaGenE
import Derived.Test.YtcaahmielncmpaaTurn
set_option linter.unusedSimpArgs false
set_option linter.unusedVariables false
namespace Go.Proofs.Ytcaahmielncmpaa
open Go Go.RowKit
set_option maxRecDepth 100000
-- tranship/transhiplaw06.s
def o89_0 (a0 : Int) : Option Tm :=
  some (Tm.mk (1 : Int) a0 (0 : Int) (0 : Int) ([] : List Tm))
def f89 (a0 : Int) : Option Tm := o89_0 a0
def an89 : An := .z
def F89 : Fn := { f := 89, a := an89, vars := [.cell 2 24], ps := [.sc .int], rs := [.st .tm], own := false, fr := true, nt := 5, D := 2, loops := [] }
def cs89 : List Cal := []
theorem p89_0 (lab : Nat → SS → Option (RT.den F89.rs)) (x : PTs.den F89.ps) : F89.body (bodyOf Try.f89) tabR tyR true cs89 lab x = o89_0 x.1 := by kernel_rfl
theorem w89 (x : PTs.den F89.ps) : F89.body (bodyOf Try.f89) tabR tyR true cs89 (F89.labX (bodyOf Try.f89) tabR tyR true cs89 (F89.labM (bodyOf Try.f89) tabR tyR true cs89 0) F89.D) x = o89_0 x.1 := by
  show F89.body (bodyOf Try.f89) tabR tyR true cs89 (F89.labX (bodyOf Try.f89) tabR tyR true cs89 (F89.labM (bodyOf Try.f89) tabR tyR true cs89 0) 2) x = _
  rw [p89_0]
theorem call89 : Callable Try.prog 89 := callable_of Try.func89 (by kernel_rfl) (by kernel_rfl)
theorem ok89 : Cal.Ok Try.prog ⟨89, F89.ps, F89.rs, F89.fr, fun a => f89 a.1⟩ :=
  cal_of_fn F89 (code := bodyOf Try.f89) Try.func89 (by kernel_rfl) (by kernel_rfl) call89 htabR (cs := cs89) (fun c hc => by simp only [cs89, List.not_mem_nil] at hc) (fun _ => mixed) (by kernel_rfl) (by kernel_rfl) (by decide) (fun x => ⟨0, w89 x⟩)
-- tranship/transhiplaw06.wakes
def o31_0 (n : Nat) : Option Bool :=
  (f89 (0 : Int)).bind fun x1 =>
  (f89 (0 : Int)).bind fun x2 =>
  (f30 n (Tm.mk (5 : Int) (0 : Int) (0 : Int) (0 : Int) [(Tm.mk x1.kind x1.i x1.j x1.n x1.kids), (Tm.mk x2.kind x2.i x2.j x2.n x2.kids), (Tm.mk (2 : Int) (0 : Int) (0 : Int) (0 : Int) ([] : List Tm)), (Tm.mk (2 : Int) (1 : Int) (0 : Int) (0 : Int) ([] : List Tm))])).bind fun x3 =>
  ifB (decide (x3.kind = (15 : Int))) (
    ifB (decide ((x3.kids.length : Int) = (2 : Int))) (
      atI x3.kids (1 : Int) fun x4 =>
      ifB (decide (x4.i = (1 : Int))) (
        (f30 n (Tm.mk (0 : Int) (0 : Int) (0 : Int) (0 : Int) ([] : List Tm))).bind fun x5 =>
        some (decide (x5.kind = (0 : Int)))) (
        some false)) (
      some false)) (
    some false)
def f31 (n : Nat) : Option Bool := o31_0 n
def an31 : An := .z
def F31 : Fn := { f := 31, a := an31, vars := [.tmp 0], ps := [], rs := [.sc .bool], own := false, fr := true, nt := 34, D := 2, loops := [] }
def cs31 (n : Nat) : List Cal := [⟨30, [.st .tm], [.st .tm], true, fun a => f30 n a.1⟩, ⟨89, [.sc .int], [.st .tm], true, fun a => f89 a.1⟩]
theorem p31_0 (n : Nat) (lab : Nat → SS → Option (RT.den F31.rs)) (x : PTs.den F31.ps) : F31.body (bodyOf Try.f31) tabR tyR true (cs31 n) lab x = o31_0 n := by kernel_rfl
theorem w31 (n : Nat) (x : PTs.den F31.ps) : F31.body (bodyOf Try.f31) tabR tyR true (cs31 n) (F31.labX (bodyOf Try.f31) tabR tyR true (cs31 n) (F31.labM (bodyOf Try.f31) tabR tyR true (cs31 n) 0) F31.D) x = o31_0 n := by
  show F31.body (bodyOf Try.f31) tabR tyR true (cs31 n) (F31.labX (bodyOf Try.f31) tabR tyR true (cs31 n) (F31.labM (bodyOf Try.f31) tabR tyR true (cs31 n) 0) 2) x = _
  rw [p31_0]
theorem call31 : Callable Try.prog 31 := callable_of Try.func31 (by kernel_rfl) (by kernel_rfl)
theorem ok31 (n : Nat) : Cal.Ok Try.prog ⟨31, F31.ps, F31.rs, F31.fr, fun _ => f31 n⟩ :=
  cal_of_fn F31 (code := bodyOf Try.f31) Try.func31 (by kernel_rfl) (by kernel_rfl) call31 htabR (cs := cs31 n) (fun c hc => by
      simp only [cs31, List.mem_cons, List.not_mem_nil, or_false] at hc
      rcases hc with rfl | rfl
      · exact ok30 n
      · exact ok89) (fun _ => mixed) (by kernel_rfl) (by kernel_rfl) (by decide) (fun x => ⟨0, w31 n x⟩)
-- tranship/transhiplaw06.StripExact
def o4_0 (n : Nat) (a0 : Tm) : Option Bool :=
  (f19 n a0 (300 : Int)).bind fun x1 =>
  ifB x1 (
    some true) (
    (f29 n a0).bind fun x2 =>
    (f21 n a0).bind fun x3 =>
    (f30 n x3).bind fun x4 =>
    (f23 n x4 x2).bind fun x5 =>
    ifB (!x5) (
      some false) (
      ckB (decide (Tm.size x4 ≤ BIG)) <|
      (f23 n x3 a0).bind fun x6 =>
      ifB x6 (
        (f31 n).bind fun x7 =>
        some x7) (
        some false)))
def f4 (n : Nat) (a0 : Tm) : Option Bool := o4_0 n a0
def an4 : An := (.n none [] 2 .z (.n none [] 2 .z (.n none [] 2 .z (.n none [] 1 .z .z))))
def F4 : Fn := { f := 4, a := an4, vars := [.tmp 2], ps := [.st .tm], rs := [.sc .bool], own := false, fr := true, nt := 26, D := 2, loops := [] }
def cs4 (n : Nat) : List Cal := [⟨19, [.st .tm, .sc .int], [.sc .bool], true, fun a => f19 n a.1 a.2.1⟩, ⟨21, [.st .tm], [.st .tm], true, fun a => f21 n a.1⟩, ⟨23, [.st .tm, .st .tm], [.sc .bool], true, fun a => f23 n a.1 a.2.1⟩, ⟨29, [.st .tm], [.st .tm], false, fun a => f29 n a.1⟩, ⟨30, [.st .tm], [.st .tm], true, fun a => f30 n a.1⟩, ⟨31, [], [.sc .bool], true, fun a => f31 n⟩]
theorem p4_0 (n : Nat) (lab : Nat → SS → Option (RT.den F4.rs)) (x : PTs.den F4.ps) : F4.bodyT (some 24) (bodyOf Try.f4) tabR tyR true (cs4 n) lab x = o4_0 n x.1 := by kernel_rfl
theorem w4 (n : Nat) (x : PTs.den F4.ps) : F4.bodyT (some 24) (bodyOf Try.f4) tabR tyR true (cs4 n) (F4.labXT (some 24) (bodyOf Try.f4) tabR tyR true (cs4 n) (F4.labMT (some 24) (bodyOf Try.f4) tabR tyR true (cs4 n) 0) F4.D) x = o4_0 n x.1 := by
  show F4.bodyT (some 24) (bodyOf Try.f4) tabR tyR true (cs4 n) (F4.labXT (some 24) (bodyOf Try.f4) tabR tyR true (cs4 n) (F4.labMT (some 24) (bodyOf Try.f4) tabR tyR true (cs4 n) 0) 2) x = _
  rw [p4_0]
theorem call4 : Callable Try.prog 4 := callable_of Try.func4 (by kernel_rfl) (by kernel_rfl)
theorem ok4 (n : Nat) : Cal.Ok Try.prog ⟨4, F4.ps, F4.rs, F4.fr, fun a => f4 n a.1⟩ :=
  calT_of_fn F4 (sp := some 24) (fun f h => by cases h; exact spoilOK) (code := bodyOf Try.f4) Try.func4 (by kernel_rfl) (by kernel_rfl) call4 htabR (cs := cs4 n) (fun c hc => by
      simp only [cs4, List.mem_cons, List.not_mem_nil, or_false] at hc
      rcases hc with rfl | rfl | rfl | rfl | rfl | rfl
      · exact ok19 n
      · exact ok21 n
      · exact ok23 n
      · exact ok29 n
      · exact ok30 n
      · exact ok31 n) (fun _ => mixed) (by kernel_rfl) (by kernel_rfl) (by kernel_rfl) (by decide) (fun x => ⟨0, w4 n x⟩)
end Go.Proofs.Ytcaahmielncmpaa
