/-
  What the statement computes, as a plain function.
-/
import Derived.Test.YteaglcbnkephgaaGenK
set_option linter.unusedSimpArgs false
set_option linter.unusedVariables false
namespace Go.Proofs.Yteaglcbnkephgaa
open Go Go.RowKit
set_option maxRecDepth 100000
-- tranship/transhiplaw04.wakes
def o61_0 (n : Nat) : Option Bool :=
  (f83 n (Tm.mk (14 : Int) (0 : Int) (0 : Int) (0 : Int) [(Tm.mk (1 : Int) (0 : Int) (0 : Int) (0 : Int) ([] : List Tm)), (Tm.mk (2 : Int) (1 : Int) (0 : Int) (0 : Int) ([] : List Tm))])).bind fun x1 =>
  if x1 then
    (f86 n (Tm.mk (14 : Int) (0 : Int) (0 : Int) (0 : Int) [(Tm.mk (1 : Int) (0 : Int) (0 : Int) (0 : Int) ([] : List Tm)), (Tm.mk (2 : Int) (1 : Int) (0 : Int) (0 : Int) ([] : List Tm))])).bind fun x2 =>
    if x2 then
      (f84 n (Tm.mk (14 : Int) (0 : Int) (0 : Int) (0 : Int) [(Tm.mk (1 : Int) (0 : Int) (0 : Int) (0 : Int) ([] : List Tm)), (Tm.mk (2 : Int) (1 : Int) (0 : Int) (0 : Int) ([] : List Tm))])).bind fun x3 =>
      if (!x3) then
        (f89 n (Tm.mk (14 : Int) (0 : Int) (0 : Int) (0 : Int) [(Tm.mk (1 : Int) (0 : Int) (0 : Int) (0 : Int) ([] : List Tm)), (Tm.mk (2 : Int) (1 : Int) (0 : Int) (0 : Int) ([] : List Tm))])).bind fun x4 =>
        if (decide (x4 = (1 : Int))) then
          (f63 n (Tm.mk (14 : Int) (0 : Int) (0 : Int) (0 : Int) [(Tm.mk (1 : Int) (0 : Int) (0 : Int) (0 : Int) ([] : List Tm)), (Tm.mk (2 : Int) (1 : Int) (0 : Int) (0 : Int) ([] : List Tm))])).bind fun x5 =>
          if (decide (x5 = (3 : Int))) then
            (f64 n (Tm.mk (14 : Int) (0 : Int) (0 : Int) (0 : Int) [(Tm.mk (1 : Int) (0 : Int) (0 : Int) (0 : Int) ([] : List Tm)), (Tm.mk (2 : Int) (1 : Int) (0 : Int) (0 : Int) ([] : List Tm))])).bind fun x6 =>
            if (decide (x6 = (2 : Int))) then
              (f57 (23 : Int) (16 : Int)).bind fun x7 =>
              if (decide (x7 = (12 : Int))) then
                (f59 (22 : Int) (2 : Int)).bind fun x8 =>
                if (decide (x8 = (2 : Int))) then
                  (f83 n (Tm.mk (0 : Int) (0 : Int) (0 : Int) (0 : Int) ([] : List Tm))).bind fun x9 =>
                  some (!x9)
                else
                  some false
              else
                some false
            else
              some false
          else
            some false
        else
          some false
      else
        some false
    else
      some false
  else
    some false
def f61 (n : Nat) : Option Bool := o61_0 n
def an61 : An := .z
def F61 : Fn := { f := 61, a := an61, vars := [.tmp 0], ps := [], rs := [.sc .bool], own := false, fr := true, nt := 45, D := 2, loops := [] }
def cs61 (n : Nat) : List Cal := [⟨57, [.sc .int, .sc .int], [.sc .int], true, fun a => f57 a.1 a.2.1⟩, ⟨59, [.sc .int, .sc .int], [.sc .int], true, fun a => f59 a.1 a.2.1⟩, ⟨63, [.st .tm], [.sc .int], true, fun a => f63 n a.1⟩, ⟨64, [.st .tm], [.sc .int], true, fun a => f64 n a.1⟩, ⟨83, [.st .tm], [.sc .bool], true, fun a => f83 n a.1⟩, ⟨84, [.st .tm], [.sc .bool], true, fun a => f84 n a.1⟩, ⟨86, [.st .tm], [.sc .bool], true, fun a => f86 n a.1⟩, ⟨89, [.st .tm], [.sc .int], true, fun a => f89 n a.1⟩]
theorem p61_0 (n : Nat) (lab : Nat → SS → Option (RT.den F61.rs)) (x : PTs.den F61.ps) : F61.body (bodyOf Try.f61) tabR tyR true (cs61 n) lab x = o61_0 n := by kernel_rfl
theorem w61 (n : Nat) (x : PTs.den F61.ps) : F61.body (bodyOf Try.f61) tabR tyR true (cs61 n) (F61.labX (bodyOf Try.f61) tabR tyR true (cs61 n) (F61.labM (bodyOf Try.f61) tabR tyR true (cs61 n) 0) F61.D) x = o61_0 n := by
  show F61.body (bodyOf Try.f61) tabR tyR true (cs61 n) (F61.labX (bodyOf Try.f61) tabR tyR true (cs61 n) (F61.labM (bodyOf Try.f61) tabR tyR true (cs61 n) 0) 2) x = _
  rw [p61_0]
theorem call61 : Callable Try.prog 61 := callable_of Try.func61 (by kernel_rfl) (by kernel_rfl)
theorem ok61 (n : Nat) : Cal.Ok Try.prog ⟨61, F61.ps, F61.rs, F61.fr, fun _ => f61 n⟩ :=
  cal_of_fn F61 (code := bodyOf Try.f61) Try.func61 (by kernel_rfl) (by kernel_rfl) call61 htabR (cs := cs61 n) (fun c hc => by
      simp only [cs61, List.mem_cons, List.not_mem_nil, or_false] at hc
      rcases hc with rfl | rfl | rfl | rfl | rfl | rfl | rfl | rfl
      · exact ok57
      · exact ok59
      · exact ok63 n
      · exact ok64 n
      · exact ok83 n
      · exact ok84 n
      · exact ok86 n
      · exact ok89 n) (fun _ => mixed) (by kernel_rfl) (by kernel_rfl) (by decide) (fun x => ⟨0, w61 n x⟩)
-- tranship/transhiplaw04.TermSame
def o17_0 (n : Nat) (k1 : Tm → Tm → Option Bool) (a0 : Tm) (a1 : Tm) : Option Bool :=
  (f62 n a0 (400 : Int)).bind fun x1 =>
  if x1 then
    some true
  else
    (f62 n a1 (400 : Int)).bind fun x2 =>
    if x2 then
      some true
    else
      k1 a0 a1
def o17_1 (n : Nat) (k2 : Tm → Tm → Bool → Option Bool) (t2 : Tm) (t3 : Tm) : Option Bool :=
  (f90 n t2 t3).bind fun x3 =>
  (f68 n t2 t3).bind fun x4 =>
  if (!(x3 == x4)) then
    some false
  else
    (f66 n t2).bind fun x5 =>
    (f90 n t2 x5).bind fun x6 =>
    if (!x6) then
      some false
    else
      (f90 n t3 t2).bind fun x7 =>
      if (!(x7 == x3)) then
        some false
      else
        k2 t2 t3 x3
def o17_2 (n : Nat) (t2 : Tm) (t3 : Tm) (t5 : Bool) : Option Bool :=
  if (!t5) then
    (f61 n).bind fun x8 =>
    some x8
  else
    (f83 n t2).bind fun x9 =>
    (f83 n t3).bind fun x10 =>
    if (x9 == x10) then
      (f63 n t2).bind fun x11 =>
      (f63 n t3).bind fun x12 =>
      if (decide (x11 = x12)) then
        (f61 n).bind fun x13 =>
        some x13
      else
        some false
    else
      some false
def c17_2 (n : Nat) (t2 : Tm) (t3 : Tm) (t5 : Bool) : Option Bool :=
  o17_2 n t2 t3 t5
def c17_1 (n : Nat) (t2 : Tm) (t3 : Tm) : Option Bool :=
  o17_1 n (c17_2 n) t2 t3
def f17 (n : Nat) (a0 : Tm) (a1 : Tm) : Option Bool := o17_0 n (c17_1 n) a0 a1
def an17 : An := (.n none [] 0 .z (.n (some 1) [(2, .ps 0 .tm false), (3, .ps 1 .tm false)] 2 .z (.n none [] 0 .z (.n (some 2) [(2, .ps 0 .tm false), (3, .ps 1 .tm false), (5, .one .c)] 2 .z .z))))
def F17 : Fn := { f := 17, a := an17, vars := [.tmp 4], ps := [.st .tm, .st .tm], rs := [.sc .bool], own := false, fr := true, nt := 53, D := 4, loops := [] }
def cs17 (n : Nat) : List Cal := [⟨61, [], [.sc .bool], true, fun a => f61 n⟩, ⟨62, [.st .tm, .sc .int], [.sc .bool], true, fun a => f62 n a.1 a.2.1⟩, ⟨63, [.st .tm], [.sc .int], true, fun a => f63 n a.1⟩, ⟨66, [.st .tm], [.st .tm], true, fun a => f66 n a.1⟩, ⟨68, [.st .tm, .st .tm], [.sc .bool], true, fun a => f68 n a.1 a.2.1⟩, ⟨83, [.st .tm], [.sc .bool], true, fun a => f83 n a.1⟩, ⟨90, [.st .tm, .st .tm], [.sc .bool], true, fun a => f90 n a.1 a.2.1⟩]
def st17_1 (t2 : Tm) (t3 : Tm) : SS := ⟨[(2, .v (.one (.ptr 0 0))), (3, .v (.one (.ptr 1 0)))], [(0, some (.bst .tm t2 false)), (1, some (.bst .tm t3 false))], 2⟩
def st17_2 (t2 : Tm) (t3 : Tm) (t5 : Bool) : SS := ⟨[(2, .v (.one (.ptr 0 0))), (3, .v (.one (.ptr 1 0))), (5, .v (.one (.c (.bool t5) true)))], [(0, some (.bst .tm t2 false)), (1, some (.bst .tm t3 false))], 2⟩
theorem p17_0 (n : Nat) (lab : Nat → SS → Option (RT.den F17.rs)) (x : PTs.den F17.ps) : F17.body (bodyOf Try.f17) tabR tyR true (cs17 n) lab x = o17_0 n (fun t2 t3 => lab 1 (st17_1 t2 t3)) x.1 x.2.1 := by kernel_rfl
theorem p17_1 (n : Nat) (lab : Nat → SS → Option (RT.den F17.rs)) (t2 : Tm) (t3 : Tm) : F17.at (bodyOf Try.f17) tabR tyR true (cs17 n) lab 1 (st17_1 t2 t3) = o17_1 n (fun t2 t3 t5 => lab 2 (st17_2 t2 t3 t5)) t2 t3 := by kernel_rfl
theorem p17_2 (n : Nat) (lab : Nat → SS → Option (RT.den F17.rs)) (t2 : Tm) (t3 : Tm) (t5 : Bool) : F17.at (bodyOf Try.f17) tabR tyR true (cs17 n) lab 2 (st17_2 t2 t3 t5) = o17_2 n t2 t3 t5 := by kernel_rfl
theorem n17_2 (n : Nat) (rec : Nat → SS → Option (RT.den F17.rs)) (d : Nat) (t2 : Tm) (t3 : Tm) (t5 : Bool) : F17.labD (bodyOf Try.f17) tabR tyR true (cs17 n) rec (d + 1) 2 (st17_2 t2 t3 t5) = c17_2 n t2 t3 t5 := by
  show F17.labD (bodyOf Try.f17) tabR tyR true (cs17 n) rec (d + 1) 2 _ = _
  rw [Fn.labD_succ, p17_2]
  rfl
theorem n17_1 (n : Nat) (rec : Nat → SS → Option (RT.den F17.rs)) (d : Nat) (t2 : Tm) (t3 : Tm) : F17.labD (bodyOf Try.f17) tabR tyR true (cs17 n) rec (d + 2) 1 (st17_1 t2 t3) = c17_1 n t2 t3 := by
  have e2 : ∀ t2 t3 t5, F17.labX (bodyOf Try.f17) tabR tyR true (cs17 n) rec (d + 1) 2 (st17_2 t2 t3 t5) = c17_2 n t2 t3 t5 := fun t2 t3 t5 => (Fn.labX_step _ _ _ _ _ _ _ _ _ _ (by kernel_rfl)).trans (n17_2 n rec d t2 t3 t5)
  show F17.labD (bodyOf Try.f17) tabR tyR true (cs17 n) rec ((d + 1) + 1) 1 _ = _
  rw [Fn.labD_succ, p17_1]
  simp only [e2]
  rfl
theorem w17 (n : Nat) (x : PTs.den F17.ps) : F17.body (bodyOf Try.f17) tabR tyR true (cs17 n) (F17.labX (bodyOf Try.f17) tabR tyR true (cs17 n) (F17.labM (bodyOf Try.f17) tabR tyR true (cs17 n) 0) F17.D) x = o17_0 n (c17_1 n) x.1 x.2.1 := by
  have e1 : ∀ t2 t3, F17.labX (bodyOf Try.f17) tabR tyR true (cs17 n) (F17.labM (bodyOf Try.f17) tabR tyR true (cs17 n) 0) 4 1 (st17_1 t2 t3) = c17_1 n t2 t3 := fun t2 t3 => (Fn.labX_step _ _ _ _ _ _ _ _ _ _ (by kernel_rfl)).trans (n17_1 n (F17.labM (bodyOf Try.f17) tabR tyR true (cs17 n) 0) 2 t2 t3)
  show F17.body (bodyOf Try.f17) tabR tyR true (cs17 n) (F17.labX (bodyOf Try.f17) tabR tyR true (cs17 n) (F17.labM (bodyOf Try.f17) tabR tyR true (cs17 n) 0) 4) x = _
  rw [p17_0]
  simp only [e1]
  try rfl
theorem call17 : Callable Try.prog 17 := callable_of Try.func17 (by kernel_rfl) (by kernel_rfl)
theorem ok17 (n : Nat) : Cal.Ok Try.prog ⟨17, F17.ps, F17.rs, F17.fr, fun a => f17 n a.1 a.2.1⟩ :=
  cal_of_fn F17 (code := bodyOf Try.f17) Try.func17 (by kernel_rfl) (by kernel_rfl) call17 htabR (cs := cs17 n) (fun c hc => by
      simp only [cs17, List.mem_cons, List.not_mem_nil, or_false] at hc
      rcases hc with rfl | rfl | rfl | rfl | rfl | rfl | rfl
      · exact ok61 n
      · exact ok62 n
      · exact ok63 n
      · exact ok66 n
      · exact ok68 n
      · exact ok83 n
      · exact ok90 n) (fun _ => mixed) (by kernel_rfl) (by kernel_rfl) (by decide) (fun x => ⟨0, w17 n x⟩)
end Go.Proofs.Yteaglcbnkephgaa
