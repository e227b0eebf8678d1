/-
  What the statement computes, as a plain function.
-/
import Derived.Test.YtcaahmielncmpaaGenK
import Derived.Test.YtcaahmielncmpaaGenE
import Derived.Test.YtcaahmielncmpaaGenD
import Derived.Test.YtcaahmielncmpaaGenC
import Derived.Test.YtcaahmielncmpaaGenR
import Derived.Test.YtcaahmielncmpaaGenH
set_option linter.unusedSimpArgs false
set_option linter.unusedVariables false
namespace Go.Proofs.Ytcaahmielncmpaa
open Go Go.RowKit
set_option maxRecDepth 100000
-- tranship/transhiplaw16.heavy
def o66_0 (n : Nat) (a0 : List Ent) (a1 : Dv) : Option Bool :=
  (f38 n a0 (60 : Int)).bind fun x1 =>
  ifB x1 (
    some true) (
    (f72 n a1 (40 : Int)).bind fun x2 =>
    some x2)
def f66 (n : Nat) (a0 : List Ent) (a1 : Dv) : Option Bool := o66_0 n a0 a1
def an66 : An := .z
def F66 : Fn := { f := 66, a := an66, vars := [.tmp 4], ps := [.sl .ent, .st .dv], rs := [.sc .bool], own := false, fr := true, nt := 11, D := 2, loops := [] }
def cs66 (n : Nat) : List Cal := [⟨38, [.sl .ent, .sc .int], [.sc .bool], true, fun a => f38 n a.1 a.2.1⟩, ⟨72, [.st .dv, .sc .int], [.sc .bool], true, fun a => f72 n a.1 a.2.1⟩]
theorem p66_0 (n : Nat) (lab : Nat → SS → Option (RT.den F66.rs)) (x : PTs.den F66.ps) : F66.body (bodyOf Try.f66) tabR tyR true (cs66 n) lab x = o66_0 n x.1 x.2.1 := by kernel_rfl
theorem w66 (n : Nat) (x : PTs.den F66.ps) : F66.body (bodyOf Try.f66) tabR tyR true (cs66 n) (F66.labX (bodyOf Try.f66) tabR tyR true (cs66 n) (F66.labM (bodyOf Try.f66) tabR tyR true (cs66 n) 0) F66.D) x = o66_0 n x.1 x.2.1 := by
  show F66.body (bodyOf Try.f66) tabR tyR true (cs66 n) (F66.labX (bodyOf Try.f66) tabR tyR true (cs66 n) (F66.labM (bodyOf Try.f66) tabR tyR true (cs66 n) 0) 2) x = _
  rw [p66_0]
theorem call66 : Callable Try.prog 66 := callable_of Try.func66 (by kernel_rfl) (by kernel_rfl)
theorem ok66 (n : Nat) : Cal.Ok Try.prog ⟨66, F66.ps, F66.rs, F66.fr, fun a => f66 n a.1 a.2.1⟩ :=
  cal_of_fn F66 (code := bodyOf Try.f66) Try.func66 (by kernel_rfl) (by kernel_rfl) call66 htabR (cs := cs66 n) (fun c hc => by
      simp only [cs66, List.mem_cons, List.not_mem_nil, or_false] at hc
      rcases hc with rfl | rfl
      · exact ok38 n
      · exact ok72 n) (fun _ => mixed) (by kernel_rfl) (by kernel_rfl) (by decide) (fun x => ⟨0, w66 n x⟩)
-- tranship/transhiplaw16.wakes
def o69_0 (n : Nat) : Option Bool :=
  (f68 n ([] : List Ent) (Dv.mk (1 : Int) (0 : Int) ([] : List Dv)) 4611686018427387904).bind fun x1 =>
  (f68 n ([] : List Ent) (Dv.mk (1 : Int) (0 : Int) ([] : List Dv)) 4607182418800017408).bind fun x2 =>
  ifB (decide (x1.2.1 = (0 : Int))) (
    ifB (decide (x1.1.i = (2 : Int))) (
      ifB (decide (x1.1.a.i = (1 : Int))) (
        ifB (decide ((x1.2.2.length : Int) = (0 : Int))) (
          some (decide (x2.2.1 = (4 : Int)))) (
          some false)) (
        some false)) (
      some false)) (
    some false)
def f69 (n : Nat) : Option Bool := o69_0 n
def an69 : An := .z
def F69 : Fn := { f := 69, a := an69, vars := [.tmp 0], ps := [], rs := [.sc .bool], own := false, fr := true, nt := 41, D := 2, loops := [] }
def cs69 (n : Nat) : List Cal := [⟨68, [.sl .ent, .st .dv, .sc .flt], [.st .jd, .sc .int, .sl .int], true, fun a => f68 n a.1 a.2.1 a.2.2.1⟩]
theorem p69_0 (n : Nat) (lab : Nat → SS → Option (RT.den F69.rs)) (x : PTs.den F69.ps) : F69.body (bodyOf Try.f69) tabR tyR true (cs69 n) lab x = o69_0 n := by kernel_rfl
theorem w69 (n : Nat) (x : PTs.den F69.ps) : F69.body (bodyOf Try.f69) tabR tyR true (cs69 n) (F69.labX (bodyOf Try.f69) tabR tyR true (cs69 n) (F69.labM (bodyOf Try.f69) tabR tyR true (cs69 n) 0) F69.D) x = o69_0 n := by
  show F69.body (bodyOf Try.f69) tabR tyR true (cs69 n) (F69.labX (bodyOf Try.f69) tabR tyR true (cs69 n) (F69.labM (bodyOf Try.f69) tabR tyR true (cs69 n) 0) 2) x = _
  rw [p69_0]
theorem call69 : Callable Try.prog 69 := callable_of Try.func69 (by kernel_rfl) (by kernel_rfl)
theorem ok69 (n : Nat) : Cal.Ok Try.prog ⟨69, F69.ps, F69.rs, F69.fr, fun _ => f69 n⟩ :=
  cal_of_fn F69 (code := bodyOf Try.f69) Try.func69 (by kernel_rfl) (by kernel_rfl) call69 htabR (cs := cs69 n) (fun c hc => by
      simp only [cs69, List.mem_cons, List.not_mem_nil, or_false] at hc
      rcases hc with rfl
      · exact ok68 n) (fun _ => mixed) (by kernel_rfl) (by kernel_rfl) (by decide) (fun x => ⟨0, w69 n x⟩)
-- tranship/transhiplaw16.CheckFaults
def o18_0 (n : Nat) (a0 : List Ent) (a1 : Dv) : Option Bool :=
  (f66 n a0 a1).bind fun x1 =>
  ifB x1 (
    some true) (
    (f68 n a0 a1 4652007308841189376).bind fun x2 =>
    ifB (!decide (x2.2.1 = (3 : Int))) (
      ifB (decide (x2.2.1 = (0 : Int))) (
        ifB (decide (x2.2.1 = (4 : Int))) (
          (f69 n).bind fun x3 =>
          some x3) (
          ifB (decide ((x2.2.2.length : Int) = (0 : Int))) (
            (f69 n).bind fun x4 =>
            some x4) (
            some false))) (
        ifB (decide (x2.2.1 = (1 : Int))) (
          ifB (decide (x2.2.1 = (4 : Int))) (
            (f69 n).bind fun x5 =>
            some x5) (
            ifB (decide ((x2.2.2.length : Int) = (0 : Int))) (
              (f69 n).bind fun x6 =>
              some x6) (
              some false))) (
          ifB (decide (x2.2.1 = (4 : Int))) (
            ifB (decide (x2.2.1 = (4 : Int))) (
              (f69 n).bind fun x7 =>
              some x7) (
              ifB (decide ((x2.2.2.length : Int) = (0 : Int))) (
                (f69 n).bind fun x8 =>
                some x8) (
                some false))) (
            some false)))) (
      (f74 n a1 x2.2.2).bind fun x9 =>
      ifB x9.2 (
        (f75 n x9.1).bind fun x10 =>
        ifB x10 (
          (f69 n).bind fun x11 =>
          some x11) (
          some false)) (
        some false)))
def f18 (n : Nat) (a0 : List Ent) (a1 : Dv) : Option Bool := o18_0 n a0 a1
def an18 : An := .z
def F18 : Fn := { f := 18, a := an18, vars := [.tmp 4], ps := [.sl .ent, .st .dv], rs := [.sc .bool], own := false, fr := true, nt := 58, D := 2, loops := [] }
def cs18 (n : Nat) : List Cal := [⟨66, [.sl .ent, .st .dv], [.sc .bool], true, fun a => f66 n a.1 a.2.1⟩, ⟨68, [.sl .ent, .st .dv, .sc .flt], [.st .jd, .sc .int, .sl .int], true, fun a => f68 n a.1 a.2.1 a.2.2.1⟩, ⟨69, [], [.sc .bool], true, fun a => f69 n⟩, ⟨74, [.st .dv, .sl .int], [.st .dv, .sc .bool], true, fun a => f74 n a.1 a.2.1⟩, ⟨75, [.st .dv], [.sc .bool], true, fun a => f75 n a.1⟩]
theorem p18_0 (n : Nat) (lab : Nat → SS → Option (RT.den F18.rs)) (x : PTs.den F18.ps) : F18.body (bodyOf Try.f18) tabR tyR true (cs18 n) lab x = o18_0 n x.1 x.2.1 := by kernel_rfl
theorem w18 (n : Nat) (x : PTs.den F18.ps) : F18.body (bodyOf Try.f18) tabR tyR true (cs18 n) (F18.labX (bodyOf Try.f18) tabR tyR true (cs18 n) (F18.labM (bodyOf Try.f18) tabR tyR true (cs18 n) 0) F18.D) x = o18_0 n x.1 x.2.1 := by
  show F18.body (bodyOf Try.f18) tabR tyR true (cs18 n) (F18.labX (bodyOf Try.f18) tabR tyR true (cs18 n) (F18.labM (bodyOf Try.f18) tabR tyR true (cs18 n) 0) 2) x = _
  rw [p18_0]
theorem call18 : Callable Try.prog 18 := callable_of Try.func18 (by kernel_rfl) (by kernel_rfl)
theorem ok18 (n : Nat) : Cal.Ok Try.prog ⟨18, F18.ps, F18.rs, F18.fr, fun a => f18 n a.1 a.2.1⟩ :=
  cal_of_fn F18 (code := bodyOf Try.f18) Try.func18 (by kernel_rfl) (by kernel_rfl) call18 htabR (cs := cs18 n) (fun c hc => by
      simp only [cs18, List.mem_cons, List.not_mem_nil, or_false] at hc
      rcases hc with rfl | rfl | rfl | rfl | rfl
      · exact ok66 n
      · exact ok68 n
      · exact ok69 n
      · exact ok74 n
      · exact ok75 n) (fun _ => mixed) (by kernel_rfl) (by kernel_rfl) (by decide) (fun x => ⟨0, w18 n x⟩)
end Go.Proofs.Ytcaahmielncmpaa
