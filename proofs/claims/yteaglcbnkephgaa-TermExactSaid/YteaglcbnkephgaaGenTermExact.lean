/-
  What the statement computes, as a plain function.
-/
import Derived.Test.YteaglcbnkephgaaGenK
set_option linter.unusedSimpArgs false
set_option linter.unusedVariables false
namespace Go.Proofs.Yteaglcbnkephgaa
open Go Go.RowKit
set_option maxRecDepth 100000
-- tranship/transhiplaw04.wakes
def o61_0 (n : Nat) : Option Bool :=
  (f83 n (Tm.mk (14 : Int) (0 : Int) (0 : Int) (0 : Int) [(Tm.mk (1 : Int) (0 : Int) (0 : Int) (0 : Int) ([] : List Tm)), (Tm.mk (2 : Int) (1 : Int) (0 : Int) (0 : Int) ([] : List Tm))])).bind fun x1 =>
  if x1 then
    (f86 n (Tm.mk (14 : Int) (0 : Int) (0 : Int) (0 : Int) [(Tm.mk (1 : Int) (0 : Int) (0 : Int) (0 : Int) ([] : List Tm)), (Tm.mk (2 : Int) (1 : Int) (0 : Int) (0 : Int) ([] : List Tm))])).bind fun x2 =>
    if x2 then
      (f84 n (Tm.mk (14 : Int) (0 : Int) (0 : Int) (0 : Int) [(Tm.mk (1 : Int) (0 : Int) (0 : Int) (0 : Int) ([] : List Tm)), (Tm.mk (2 : Int) (1 : Int) (0 : Int) (0 : Int) ([] : List Tm))])).bind fun x3 =>
      if (!x3) then
        (f89 n (Tm.mk (14 : Int) (0 : Int) (0 : Int) (0 : Int) [(Tm.mk (1 : Int) (0 : Int) (0 : Int) (0 : Int) ([] : List Tm)), (Tm.mk (2 : Int) (1 : Int) (0 : Int) (0 : Int) ([] : List Tm))])).bind fun x4 =>
        if (decide (x4 = (1 : Int))) then
          (f63 n (Tm.mk (14 : Int) (0 : Int) (0 : Int) (0 : Int) [(Tm.mk (1 : Int) (0 : Int) (0 : Int) (0 : Int) ([] : List Tm)), (Tm.mk (2 : Int) (1 : Int) (0 : Int) (0 : Int) ([] : List Tm))])).bind fun x5 =>
          if (decide (x5 = (3 : Int))) then
            (f64 n (Tm.mk (14 : Int) (0 : Int) (0 : Int) (0 : Int) [(Tm.mk (1 : Int) (0 : Int) (0 : Int) (0 : Int) ([] : List Tm)), (Tm.mk (2 : Int) (1 : Int) (0 : Int) (0 : Int) ([] : List Tm))])).bind fun x6 =>
            if (decide (x6 = (2 : Int))) then
              (f57 (23 : Int) (16 : Int)).bind fun x7 =>
              if (decide (x7 = (12 : Int))) then
                (f59 (22 : Int) (2 : Int)).bind fun x8 =>
                if (decide (x8 = (2 : Int))) then
                  (f83 n (Tm.mk (0 : Int) (0 : Int) (0 : Int) (0 : Int) ([] : List Tm))).bind fun x9 =>
                  some (!x9)
                else
                  some false
              else
                some false
            else
              some false
          else
            some false
        else
          some false
      else
        some false
    else
      some false
  else
    some false
def f61 (n : Nat) : Option Bool := o61_0 n
def an61 : An := .z
def F61 : Fn := { f := 61, a := an61, vars := [.tmp 0], ps := [], rs := [.sc .bool], own := false, fr := true, nt := 45, D := 2, loops := [] }
def cs61 (n : Nat) : List Cal := [⟨57, [.sc .int, .sc .int], [.sc .int], true, fun a => f57 a.1 a.2.1⟩, ⟨59, [.sc .int, .sc .int], [.sc .int], true, fun a => f59 a.1 a.2.1⟩, ⟨63, [.st .tm], [.sc .int], true, fun a => f63 n a.1⟩, ⟨64, [.st .tm], [.sc .int], true, fun a => f64 n a.1⟩, ⟨83, [.st .tm], [.sc .bool], true, fun a => f83 n a.1⟩, ⟨84, [.st .tm], [.sc .bool], true, fun a => f84 n a.1⟩, ⟨86, [.st .tm], [.sc .bool], true, fun a => f86 n a.1⟩, ⟨89, [.st .tm], [.sc .int], true, fun a => f89 n a.1⟩]
theorem p61_0 (n : Nat) (lab : Nat → SS → Option (RT.den F61.rs)) (x : PTs.den F61.ps) : F61.body (bodyOf Try.f61) tabR tyR true (cs61 n) lab x = o61_0 n := by kernel_rfl
theorem w61 (n : Nat) (x : PTs.den F61.ps) : F61.body (bodyOf Try.f61) tabR tyR true (cs61 n) (F61.labX (bodyOf Try.f61) tabR tyR true (cs61 n) (F61.labM (bodyOf Try.f61) tabR tyR true (cs61 n) 0) F61.D) x = o61_0 n := by
  show F61.body (bodyOf Try.f61) tabR tyR true (cs61 n) (F61.labX (bodyOf Try.f61) tabR tyR true (cs61 n) (F61.labM (bodyOf Try.f61) tabR tyR true (cs61 n) 0) 2) x = _
  rw [p61_0]
theorem call61 : Callable Try.prog 61 := callable_of Try.func61 (by kernel_rfl) (by kernel_rfl)
theorem ok61 (n : Nat) : Cal.Ok Try.prog ⟨61, F61.ps, F61.rs, F61.fr, fun _ => f61 n⟩ :=
  cal_of_fn F61 (code := bodyOf Try.f61) Try.func61 (by kernel_rfl) (by kernel_rfl) call61 htabR (cs := cs61 n) (fun c hc => by
      simp only [cs61, List.mem_cons, List.not_mem_nil, or_false] at hc
      rcases hc with rfl | rfl | rfl | rfl | rfl | rfl | rfl | rfl
      · exact ok57
      · exact ok59
      · exact ok63 n
      · exact ok64 n
      · exact ok83 n
      · exact ok84 n
      · exact ok86 n
      · exact ok89 n) (fun _ => mixed) (by kernel_rfl) (by kernel_rfl) (by decide) (fun x => ⟨0, w61 n x⟩)
-- tranship/transhiplaw04.TermExact
def o16_0 (n : Nat) (a0 : Tm) : Option Bool :=
  (f62 n a0 (400 : Int)).bind fun x1 =>
  if x1 then
    some true
  else
    (f83 n a0).bind fun x2 =>
    (f81 n a0).bind fun x3 =>
    if (x2 == x3) then
      (f84 n a0).bind fun x4 =>
      (f70 n a0).bind fun x5 =>
      if (x4 == x5) then
        (f85 n a0).bind fun x6 =>
        (f74 n a0).bind fun x7 =>
        if (x6 == x7) then
          (f86 n a0).bind fun x8 =>
          (f77 n a0).bind fun x9 =>
          if (x8 == x9) then
            (f63 n a0).bind fun x10 =>
            (f87 n a0).bind fun x11 =>
            if (decide (x10 = x11)) then
              (f64 n a0).bind fun x12 =>
              (f88 n a0).bind fun x13 =>
              if (decide (x12 = x13)) then
                (f89 n a0).bind fun x14 =>
                (f82 n a0).bind fun x15 =>
                if (decide (x14 = x15)) then
                  (f61 n).bind fun x16 =>
                  some x16
                else
                  some false
              else
                some false
            else
              some false
          else
            some false
        else
          some false
      else
        some false
    else
      some false
def f16 (n : Nat) (a0 : Tm) : Option Bool := o16_0 n a0
def an16 : An := .z
def F16 : Fn := { f := 16, a := an16, vars := [.tmp 2], ps := [.st .tm], rs := [.sc .bool], own := false, fr := true, nt := 55, D := 2, loops := [] }
def cs16 (n : Nat) : List Cal := [⟨61, [], [.sc .bool], true, fun a => f61 n⟩, ⟨62, [.st .tm, .sc .int], [.sc .bool], true, fun a => f62 n a.1 a.2.1⟩, ⟨63, [.st .tm], [.sc .int], true, fun a => f63 n a.1⟩, ⟨64, [.st .tm], [.sc .int], true, fun a => f64 n a.1⟩, ⟨70, [.st .tm], [.sc .bool], true, fun a => f70 n a.1⟩, ⟨74, [.st .tm], [.sc .bool], true, fun a => f74 n a.1⟩, ⟨77, [.st .tm], [.sc .bool], true, fun a => f77 n a.1⟩, ⟨81, [.st .tm], [.sc .bool], true, fun a => f81 n a.1⟩, ⟨82, [.st .tm], [.sc .int], true, fun a => f82 n a.1⟩, ⟨83, [.st .tm], [.sc .bool], true, fun a => f83 n a.1⟩, ⟨84, [.st .tm], [.sc .bool], true, fun a => f84 n a.1⟩, ⟨85, [.st .tm], [.sc .bool], true, fun a => f85 n a.1⟩, ⟨86, [.st .tm], [.sc .bool], true, fun a => f86 n a.1⟩, ⟨87, [.st .tm], [.sc .int], true, fun a => f87 n a.1⟩, ⟨88, [.st .tm], [.sc .int], true, fun a => f88 n a.1⟩, ⟨89, [.st .tm], [.sc .int], true, fun a => f89 n a.1⟩]
theorem p16_0 (n : Nat) (lab : Nat → SS → Option (RT.den F16.rs)) (x : PTs.den F16.ps) : F16.body (bodyOf Try.f16) tabR tyR true (cs16 n) lab x = o16_0 n x.1 := by kernel_rfl
theorem w16 (n : Nat) (x : PTs.den F16.ps) : F16.body (bodyOf Try.f16) tabR tyR true (cs16 n) (F16.labX (bodyOf Try.f16) tabR tyR true (cs16 n) (F16.labM (bodyOf Try.f16) tabR tyR true (cs16 n) 0) F16.D) x = o16_0 n x.1 := by
  show F16.body (bodyOf Try.f16) tabR tyR true (cs16 n) (F16.labX (bodyOf Try.f16) tabR tyR true (cs16 n) (F16.labM (bodyOf Try.f16) tabR tyR true (cs16 n) 0) 2) x = _
  rw [p16_0]
theorem call16 : Callable Try.prog 16 := callable_of Try.func16 (by kernel_rfl) (by kernel_rfl)
theorem ok16 (n : Nat) : Cal.Ok Try.prog ⟨16, F16.ps, F16.rs, F16.fr, fun a => f16 n a.1⟩ :=
  cal_of_fn F16 (code := bodyOf Try.f16) Try.func16 (by kernel_rfl) (by kernel_rfl) call16 htabR (cs := cs16 n) (fun c hc => by
      simp only [cs16, List.mem_cons, List.not_mem_nil, or_false] at hc
      rcases hc with rfl | rfl | rfl | rfl | rfl | rfl | rfl | rfl | rfl | rfl | rfl | rfl | rfl | rfl | rfl | rfl
      · exact ok61 n
      · exact ok62 n
      · exact ok63 n
      · exact ok64 n
      · exact ok70 n
      · exact ok74 n
      · exact ok77 n
      · exact ok81 n
      · exact ok82 n
      · exact ok83 n
      · exact ok84 n
      · exact ok85 n
      · exact ok86 n
      · exact ok87 n
      · exact ok88 n
      · exact ok89 n) (fun _ => mixed) (by kernel_rfl) (by kernel_rfl) (by decide) (fun x => ⟨0, w16 n x⟩)
end Go.Proofs.Yteaglcbnkephgaa
