/-
  What the statement computes, as a plain function.
-/
import Derived.Test.YteaglcbnkephgaaGenK
import Derived.Test.YteaglcbnkephgaaGenE
set_option linter.unusedSimpArgs false
set_option linter.unusedVariables false
namespace Go.Proofs.Yteaglcbnkephgaa
open Go Go.RowKit
set_option maxRecDepth 100000
-- tranship/transhiplaw06.s
def o126_0 (a0 : Int) : Option Tm :=
  some (Tm.mk (1 : Int) a0 (0 : Int) (0 : Int) ([] : List Tm))
def f126 (a0 : Int) : Option Tm := o126_0 a0
def an126 : An := .z
def F126 : Fn := { f := 126, a := an126, vars := [.cell 2 45], ps := [.sc .int], rs := [.st .tm], own := false, fr := true, nt := 5, D := 2, loops := [] }
def cs126 : List Cal := []
theorem p126_0 (lab : Nat → SS → Option (RT.den F126.rs)) (x : PTs.den F126.ps) : F126.body (bodyOf Try.f126) tabR tyR true cs126 lab x = o126_0 x.1 := by kernel_rfl
theorem w126 (x : PTs.den F126.ps) : F126.body (bodyOf Try.f126) tabR tyR true cs126 (F126.labX (bodyOf Try.f126) tabR tyR true cs126 (F126.labM (bodyOf Try.f126) tabR tyR true cs126 0) F126.D) x = o126_0 x.1 := by
  show F126.body (bodyOf Try.f126) tabR tyR true cs126 (F126.labX (bodyOf Try.f126) tabR tyR true cs126 (F126.labM (bodyOf Try.f126) tabR tyR true cs126 0) 2) x = _
  rw [p126_0]
theorem call126 : Callable Try.prog 126 := callable_of Try.func126 (by kernel_rfl) (by kernel_rfl)
theorem ok126 : Cal.Ok Try.prog ⟨126, F126.ps, F126.rs, F126.fr, fun a => f126 a.1⟩ :=
  cal_of_fn F126 (code := bodyOf Try.f126) Try.func126 (by kernel_rfl) (by kernel_rfl) call126 htabR (cs := cs126) (fun c hc => by simp only [cs126, List.not_mem_nil] at hc) (fun _ => mixed) (by kernel_rfl) (by kernel_rfl) (by decide) (fun x => ⟨0, w126 x⟩)
-- tranship/transhiplaw06.wakes
def o80_0 (n : Nat) : Option Bool :=
  (f126 (0 : Int)).bind fun x1 =>
  (f126 (0 : Int)).bind fun x2 =>
  (f79 n (Tm.mk (5 : Int) (0 : Int) (0 : Int) (0 : Int) [(Tm.mk x1.kind x1.i x1.j x1.n x1.kids), (Tm.mk x2.kind x2.i x2.j x2.n x2.kids), (Tm.mk (2 : Int) (0 : Int) (0 : Int) (0 : Int) ([] : List Tm)), (Tm.mk (2 : Int) (1 : Int) (0 : Int) (0 : Int) ([] : List Tm))])).bind fun x3 =>
  if (decide (x3.kind = (15 : Int))) then
    if (decide ((x3.kids.length : Int) = (2 : Int))) then
      atI x3.kids (1 : Int) fun x4 =>
      if (decide (x4.i = (1 : Int))) then
        (f79 n (Tm.mk (0 : Int) (0 : Int) (0 : Int) (0 : Int) ([] : List Tm))).bind fun x5 =>
        some (decide (x5.kind = (0 : Int)))
      else
        some false
    else
      some false
  else
    some false
def f80 (n : Nat) : Option Bool := o80_0 n
def an80 : An := .z
def F80 : Fn := { f := 80, a := an80, vars := [.tmp 0], ps := [], rs := [.sc .bool], own := false, fr := true, nt := 34, D := 2, loops := [] }
def cs80 (n : Nat) : List Cal := [⟨79, [.st .tm], [.st .tm], false, fun a => f79 n a.1⟩, ⟨126, [.sc .int], [.st .tm], true, fun a => f126 a.1⟩]
theorem p80_0 (n : Nat) (lab : Nat → SS → Option (RT.den F80.rs)) (x : PTs.den F80.ps) : F80.body (bodyOf Try.f80) tabR tyR true (cs80 n) lab x = o80_0 n := by kernel_rfl
theorem w80 (n : Nat) (x : PTs.den F80.ps) : F80.body (bodyOf Try.f80) tabR tyR true (cs80 n) (F80.labX (bodyOf Try.f80) tabR tyR true (cs80 n) (F80.labM (bodyOf Try.f80) tabR tyR true (cs80 n) 0) F80.D) x = o80_0 n := by
  show F80.body (bodyOf Try.f80) tabR tyR true (cs80 n) (F80.labX (bodyOf Try.f80) tabR tyR true (cs80 n) (F80.labM (bodyOf Try.f80) tabR tyR true (cs80 n) 0) 2) x = _
  rw [p80_0]
theorem call80 : Callable Try.prog 80 := callable_of Try.func80 (by kernel_rfl) (by kernel_rfl)
theorem ok80 (n : Nat) : Cal.Ok Try.prog ⟨80, F80.ps, F80.rs, F80.fr, fun _ => f80 n⟩ :=
  cal_of_fn F80 (code := bodyOf Try.f80) Try.func80 (by kernel_rfl) (by kernel_rfl) call80 htabR (cs := cs80 n) (fun c hc => by
      simp only [cs80, List.mem_cons, List.not_mem_nil, or_false] at hc
      rcases hc with rfl | rfl
      · exact ok79 n
      · exact ok126) (fun _ => mixed) (by kernel_rfl) (by kernel_rfl) (by decide) (fun x => ⟨0, w80 n x⟩)
-- tranship/transhiplaw06.StripLift
def o25_0 (n : Nat) (k1 : Int → Int → Tm → Option Bool) (a0 : Tm) (a1 : Int) (a2 : Int) : Option Bool :=
  (f62 n a0 (300 : Int)).bind fun x1 =>
  if x1 then
    some true
  else
    (f81 n a0).bind fun x2 =>
    if (!x2) then
      some true
    else
      if (decide (a1 < (0 : Int))) then
        some true
      else
        if (decide (a2 < (0 : Int))) then
          some true
        else
          if (decide ((1048576 : Int) < a1)) then
            some true
          else
            (f82 n a0).bind fun x3 =>
            if (decide ((1048576 : Int) < x3)) then
              some true
            else
              k1 a1 a2 a0
def o25_1 (n : Nat) (t1 : Int) (t2 : Int) (t3 : Tm) : Option Bool :=
  (f92 n t3 t1 t2).bind fun x4 =>
  (f79 n x4).bind fun x5 =>
  (f79 n t3).bind fun x6 =>
  (f92 n x6 t1 t2).bind fun x7 =>
  (f68 n x5 x7).bind fun x8 =>
  if x8 then
    (f80 n).bind fun x9 =>
    some x9
  else
    some false
def c25_1 (n : Nat) (t1 : Int) (t2 : Int) (t3 : Tm) : Option Bool :=
  o25_1 n t1 t2 t3
def f25 (n : Nat) (a0 : Tm) (a1 : Int) (a2 : Int) : Option Bool := o25_0 n (c25_1 n) a0 a1 a2
def an25 : An := (.n none [] 0 .z (.n (some 1) [(1, .one .c), (2, .one .c), (3, .ps 0 .tm false)] 1 .z .z))
def F25 : Fn := { f := 25, a := an25, vars := [.tmp 6], ps := [.st .tm, .sc .int, .sc .int], rs := [.sc .bool], own := false, fr := true, nt := 45, D := 3, loops := [] }
def cs25 (n : Nat) : List Cal := [⟨62, [.st .tm, .sc .int], [.sc .bool], true, fun a => f62 n a.1 a.2.1⟩, ⟨68, [.st .tm, .st .tm], [.sc .bool], true, fun a => f68 n a.1 a.2.1⟩, ⟨79, [.st .tm], [.st .tm], false, fun a => f79 n a.1⟩, ⟨80, [], [.sc .bool], true, fun a => f80 n⟩, ⟨81, [.st .tm], [.sc .bool], true, fun a => f81 n a.1⟩, ⟨82, [.st .tm], [.sc .int], true, fun a => f82 n a.1⟩, ⟨92, [.st .tm, .sc .int, .sc .int], [.st .tm], true, fun a => f92 n a.1 a.2.1 a.2.2.1⟩]
def st25_1 (t1 : Int) (t2 : Int) (t3 : Tm) : SS := ⟨[(1, .v (.one (.c (.int t1) true))), (2, .v (.one (.c (.int t2) true))), (3, .v (.one (.ptr 0 0)))], [(0, some (.bst .tm t3 false))], 1⟩
theorem p25_0 (n : Nat) (lab : Nat → SS → Option (RT.den F25.rs)) (x : PTs.den F25.ps) : F25.body (bodyOf Try.f25) tabR tyR true (cs25 n) lab x = o25_0 n (fun t1 t2 t3 => lab 1 (st25_1 t1 t2 t3)) x.1 x.2.1 x.2.2.1 := by kernel_rfl
theorem p25_1 (n : Nat) (lab : Nat → SS → Option (RT.den F25.rs)) (t1 : Int) (t2 : Int) (t3 : Tm) : F25.at (bodyOf Try.f25) tabR tyR true (cs25 n) lab 1 (st25_1 t1 t2 t3) = o25_1 n t1 t2 t3 := by kernel_rfl
theorem n25_1 (n : Nat) (rec : Nat → SS → Option (RT.den F25.rs)) (d : Nat) (t1 : Int) (t2 : Int) (t3 : Tm) : F25.labD (bodyOf Try.f25) tabR tyR true (cs25 n) rec (d + 1) 1 (st25_1 t1 t2 t3) = c25_1 n t1 t2 t3 := by
  show F25.labD (bodyOf Try.f25) tabR tyR true (cs25 n) rec (d + 1) 1 _ = _
  rw [Fn.labD_succ, p25_1]
  rfl
theorem w25 (n : Nat) (x : PTs.den F25.ps) : F25.body (bodyOf Try.f25) tabR tyR true (cs25 n) (F25.labX (bodyOf Try.f25) tabR tyR true (cs25 n) (F25.labM (bodyOf Try.f25) tabR tyR true (cs25 n) 0) F25.D) x = o25_0 n (c25_1 n) x.1 x.2.1 x.2.2.1 := by
  have e1 : ∀ t1 t2 t3, F25.labX (bodyOf Try.f25) tabR tyR true (cs25 n) (F25.labM (bodyOf Try.f25) tabR tyR true (cs25 n) 0) 3 1 (st25_1 t1 t2 t3) = c25_1 n t1 t2 t3 := fun t1 t2 t3 => (Fn.labX_step _ _ _ _ _ _ _ _ _ _ (by kernel_rfl)).trans (n25_1 n (F25.labM (bodyOf Try.f25) tabR tyR true (cs25 n) 0) 2 t1 t2 t3)
  show F25.body (bodyOf Try.f25) tabR tyR true (cs25 n) (F25.labX (bodyOf Try.f25) tabR tyR true (cs25 n) (F25.labM (bodyOf Try.f25) tabR tyR true (cs25 n) 0) 3) x = _
  rw [p25_0]
  simp only [e1]
  try rfl
theorem call25 : Callable Try.prog 25 := callable_of Try.func25 (by kernel_rfl) (by kernel_rfl)
theorem ok25 (n : Nat) : Cal.Ok Try.prog ⟨25, F25.ps, F25.rs, F25.fr, fun a => f25 n a.1 a.2.1 a.2.2.1⟩ :=
  cal_of_fn F25 (code := bodyOf Try.f25) Try.func25 (by kernel_rfl) (by kernel_rfl) call25 htabR (cs := cs25 n) (fun c hc => by
      simp only [cs25, List.mem_cons, List.not_mem_nil, or_false] at hc
      rcases hc with rfl | rfl | rfl | rfl | rfl | rfl | rfl
      · exact ok62 n
      · exact ok68 n
      · exact ok79 n
      · exact ok80 n
      · exact ok81 n
      · exact ok82 n
      · exact ok92 n) (fun _ => mixed) (by kernel_rfl) (by kernel_rfl) (by decide) (fun x => ⟨0, w25 n x⟩)
end Go.Proofs.Yteaglcbnkephgaa
