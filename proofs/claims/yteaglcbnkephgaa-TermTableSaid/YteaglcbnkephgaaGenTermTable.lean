/-
  What the statement computes, as a plain function.
-/
import Derived.Test.YteaglcbnkephgaaGenK
set_option linter.unusedSimpArgs false
set_option linter.unusedVariables false
namespace Go.Proofs.Yteaglcbnkephgaa
open Go Go.RowKit
set_option maxRecDepth 100000
-- tranship/transhiplaw04.wakes
def o61_0 (n : Nat) : Option Bool :=
  (f83 n (Tm.mk (14 : Int) (0 : Int) (0 : Int) (0 : Int) [(Tm.mk (1 : Int) (0 : Int) (0 : Int) (0 : Int) ([] : List Tm)), (Tm.mk (2 : Int) (1 : Int) (0 : Int) (0 : Int) ([] : List Tm))])).bind fun x1 =>
  if x1 then
    (f86 n (Tm.mk (14 : Int) (0 : Int) (0 : Int) (0 : Int) [(Tm.mk (1 : Int) (0 : Int) (0 : Int) (0 : Int) ([] : List Tm)), (Tm.mk (2 : Int) (1 : Int) (0 : Int) (0 : Int) ([] : List Tm))])).bind fun x2 =>
    if x2 then
      (f84 n (Tm.mk (14 : Int) (0 : Int) (0 : Int) (0 : Int) [(Tm.mk (1 : Int) (0 : Int) (0 : Int) (0 : Int) ([] : List Tm)), (Tm.mk (2 : Int) (1 : Int) (0 : Int) (0 : Int) ([] : List Tm))])).bind fun x3 =>
      if (!x3) then
        (f89 n (Tm.mk (14 : Int) (0 : Int) (0 : Int) (0 : Int) [(Tm.mk (1 : Int) (0 : Int) (0 : Int) (0 : Int) ([] : List Tm)), (Tm.mk (2 : Int) (1 : Int) (0 : Int) (0 : Int) ([] : List Tm))])).bind fun x4 =>
        if (decide (x4 = (1 : Int))) then
          (f63 n (Tm.mk (14 : Int) (0 : Int) (0 : Int) (0 : Int) [(Tm.mk (1 : Int) (0 : Int) (0 : Int) (0 : Int) ([] : List Tm)), (Tm.mk (2 : Int) (1 : Int) (0 : Int) (0 : Int) ([] : List Tm))])).bind fun x5 =>
          if (decide (x5 = (3 : Int))) then
            (f64 n (Tm.mk (14 : Int) (0 : Int) (0 : Int) (0 : Int) [(Tm.mk (1 : Int) (0 : Int) (0 : Int) (0 : Int) ([] : List Tm)), (Tm.mk (2 : Int) (1 : Int) (0 : Int) (0 : Int) ([] : List Tm))])).bind fun x6 =>
            if (decide (x6 = (2 : Int))) then
              (f57 (23 : Int) (16 : Int)).bind fun x7 =>
              if (decide (x7 = (12 : Int))) then
                (f59 (22 : Int) (2 : Int)).bind fun x8 =>
                if (decide (x8 = (2 : Int))) then
                  (f83 n (Tm.mk (0 : Int) (0 : Int) (0 : Int) (0 : Int) ([] : List Tm))).bind fun x9 =>
                  some (!x9)
                else
                  some false
              else
                some false
            else
              some false
          else
            some false
        else
          some false
      else
        some false
    else
      some false
  else
    some false
def f61 (n : Nat) : Option Bool := o61_0 n
def an61 : An := .z
def F61 : Fn := { f := 61, a := an61, vars := [.tmp 0], ps := [], rs := [.sc .bool], own := false, fr := true, nt := 45, D := 2, loops := [] }
def cs61 (n : Nat) : List Cal := [⟨57, [.sc .int, .sc .int], [.sc .int], true, fun a => f57 a.1 a.2.1⟩, ⟨59, [.sc .int, .sc .int], [.sc .int], true, fun a => f59 a.1 a.2.1⟩, ⟨63, [.st .tm], [.sc .int], true, fun a => f63 n a.1⟩, ⟨64, [.st .tm], [.sc .int], true, fun a => f64 n a.1⟩, ⟨83, [.st .tm], [.sc .bool], true, fun a => f83 n a.1⟩, ⟨84, [.st .tm], [.sc .bool], true, fun a => f84 n a.1⟩, ⟨86, [.st .tm], [.sc .bool], true, fun a => f86 n a.1⟩, ⟨89, [.st .tm], [.sc .int], true, fun a => f89 n a.1⟩]
theorem p61_0 (n : Nat) (lab : Nat → SS → Option (RT.den F61.rs)) (x : PTs.den F61.ps) : F61.body (bodyOf Try.f61) tabR tyR true (cs61 n) lab x = o61_0 n := by kernel_rfl
theorem w61 (n : Nat) (x : PTs.den F61.ps) : F61.body (bodyOf Try.f61) tabR tyR true (cs61 n) (F61.labX (bodyOf Try.f61) tabR tyR true (cs61 n) (F61.labM (bodyOf Try.f61) tabR tyR true (cs61 n) 0) F61.D) x = o61_0 n := by
  show F61.body (bodyOf Try.f61) tabR tyR true (cs61 n) (F61.labX (bodyOf Try.f61) tabR tyR true (cs61 n) (F61.labM (bodyOf Try.f61) tabR tyR true (cs61 n) 0) 2) x = _
  rw [p61_0]
theorem call61 : Callable Try.prog 61 := callable_of Try.func61 (by kernel_rfl) (by kernel_rfl)
theorem ok61 (n : Nat) : Cal.Ok Try.prog ⟨61, F61.ps, F61.rs, F61.fr, fun _ => f61 n⟩ :=
  cal_of_fn F61 (code := bodyOf Try.f61) Try.func61 (by kernel_rfl) (by kernel_rfl) call61 htabR (cs := cs61 n) (fun c hc => by
      simp only [cs61, List.mem_cons, List.not_mem_nil, or_false] at hc
      rcases hc with rfl | rfl | rfl | rfl | rfl | rfl | rfl | rfl
      · exact ok57
      · exact ok59
      · exact ok63 n
      · exact ok64 n
      · exact ok83 n
      · exact ok84 n
      · exact ok86 n
      · exact ok89 n) (fun _ => mixed) (by kernel_rfl) (by kernel_rfl) (by decide) (fun x => ⟨0, w61 n x⟩)
-- tranship/transhiplaw04.TermTable
def o7_0 (n : Nat) (a0 : Int) (a1 : Int) (a2 : Int) : Option Bool :=
  (f57 a0 a1).bind fun x1 =>
  (f58 a0 a1).bind fun x2 =>
  if (decide (x1 = x2)) then
    (f59 a0 a2).bind fun x3 =>
    (f60 a0 a2).bind fun x4 =>
    if (decide (x3 = x4)) then
      (f61 n).bind fun x5 =>
      some x5
    else
      some false
  else
    some false
def f7 (n : Nat) (a0 : Int) (a1 : Int) (a2 : Int) : Option Bool := o7_0 n a0 a1 a2
def an7 : An := .z
def F7 : Fn := { f := 7, a := an7, vars := [.tmp 6], ps := [.sc .int, .sc .int, .sc .int], rs := [.sc .bool], own := false, fr := true, nt := 26, D := 2, loops := [] }
def cs7 (n : Nat) : List Cal := [⟨57, [.sc .int, .sc .int], [.sc .int], true, fun a => f57 a.1 a.2.1⟩, ⟨58, [.sc .int, .sc .int], [.sc .int], true, fun a => f58 a.1 a.2.1⟩, ⟨59, [.sc .int, .sc .int], [.sc .int], true, fun a => f59 a.1 a.2.1⟩, ⟨60, [.sc .int, .sc .int], [.sc .int], true, fun a => f60 a.1 a.2.1⟩, ⟨61, [], [.sc .bool], true, fun a => f61 n⟩]
theorem p7_0 (n : Nat) (lab : Nat → SS → Option (RT.den F7.rs)) (x : PTs.den F7.ps) : F7.body (bodyOf Try.f7) tabR tyR true (cs7 n) lab x = o7_0 n x.1 x.2.1 x.2.2.1 := by kernel_rfl
theorem w7 (n : Nat) (x : PTs.den F7.ps) : F7.body (bodyOf Try.f7) tabR tyR true (cs7 n) (F7.labX (bodyOf Try.f7) tabR tyR true (cs7 n) (F7.labM (bodyOf Try.f7) tabR tyR true (cs7 n) 0) F7.D) x = o7_0 n x.1 x.2.1 x.2.2.1 := by
  show F7.body (bodyOf Try.f7) tabR tyR true (cs7 n) (F7.labX (bodyOf Try.f7) tabR tyR true (cs7 n) (F7.labM (bodyOf Try.f7) tabR tyR true (cs7 n) 0) 2) x = _
  rw [p7_0]
theorem call7 : Callable Try.prog 7 := callable_of Try.func7 (by kernel_rfl) (by kernel_rfl)
theorem ok7 (n : Nat) : Cal.Ok Try.prog ⟨7, F7.ps, F7.rs, F7.fr, fun a => f7 n a.1 a.2.1 a.2.2.1⟩ :=
  cal_of_fn F7 (code := bodyOf Try.f7) Try.func7 (by kernel_rfl) (by kernel_rfl) call7 htabR (cs := cs7 n) (fun c hc => by
      simp only [cs7, List.mem_cons, List.not_mem_nil, or_false] at hc
      rcases hc with rfl | rfl | rfl | rfl | rfl
      · exact ok57
      · exact ok58
      · exact ok59
      · exact ok60
      · exact ok61 n) (fun _ => mixed) (by kernel_rfl) (by kernel_rfl) (by decide) (fun x => ⟨0, w7 n x⟩)
end Go.Proofs.Yteaglcbnkephgaa
