/-
  What the statement computes, as a plain function.
-/
import Derived.Test.YteaglcbnkephgaaGenK
import Derived.Test.YteaglcbnkephgaaGenE
set_option linter.unusedSimpArgs false
set_option linter.unusedVariables false
namespace Go.Proofs.Yteaglcbnkephgaa
open Go Go.RowKit
set_option maxRecDepth 100000
-- tranship/transhiplaw06.s
def o126_0 (a0 : Int) : Option Tm :=
  some (Tm.mk (1 : Int) a0 (0 : Int) (0 : Int) ([] : List Tm))
def f126 (a0 : Int) : Option Tm := o126_0 a0
def an126 : An := .z
def F126 : Fn := { f := 126, a := an126, vars := [.cell 2 45], ps := [.sc .int], rs := [.st .tm], own := false, fr := true, nt := 5, D := 2, loops := [] }
def cs126 : List Cal := []
theorem p126_0 (lab : Nat → SS → Option (RT.den F126.rs)) (x : PTs.den F126.ps) : F126.body (bodyOf Try.f126) tabR tyR true cs126 lab x = o126_0 x.1 := by kernel_rfl
theorem w126 (x : PTs.den F126.ps) : F126.body (bodyOf Try.f126) tabR tyR true cs126 (F126.labX (bodyOf Try.f126) tabR tyR true cs126 (F126.labM (bodyOf Try.f126) tabR tyR true cs126 0) F126.D) x = o126_0 x.1 := by
  show F126.body (bodyOf Try.f126) tabR tyR true cs126 (F126.labX (bodyOf Try.f126) tabR tyR true cs126 (F126.labM (bodyOf Try.f126) tabR tyR true cs126 0) 2) x = _
  rw [p126_0]
theorem call126 : Callable Try.prog 126 := callable_of Try.func126 (by kernel_rfl) (by kernel_rfl)
theorem ok126 : Cal.Ok Try.prog ⟨126, F126.ps, F126.rs, F126.fr, fun a => f126 a.1⟩ :=
  cal_of_fn F126 (code := bodyOf Try.f126) Try.func126 (by kernel_rfl) (by kernel_rfl) call126 htabR (cs := cs126) (fun c hc => by simp only [cs126, List.not_mem_nil] at hc) (fun _ => mixed) (by kernel_rfl) (by kernel_rfl) (by decide) (fun x => ⟨0, w126 x⟩)
-- tranship/transhiplaw06.wakes
def o80_0 (n : Nat) : Option Bool :=
  (f126 (0 : Int)).bind fun x1 =>
  (f126 (0 : Int)).bind fun x2 =>
  (f79 n (Tm.mk (5 : Int) (0 : Int) (0 : Int) (0 : Int) [(Tm.mk x1.kind x1.i x1.j x1.n x1.kids), (Tm.mk x2.kind x2.i x2.j x2.n x2.kids), (Tm.mk (2 : Int) (0 : Int) (0 : Int) (0 : Int) ([] : List Tm)), (Tm.mk (2 : Int) (1 : Int) (0 : Int) (0 : Int) ([] : List Tm))])).bind fun x3 =>
  if (decide (x3.kind = (15 : Int))) then
    if (decide ((x3.kids.length : Int) = (2 : Int))) then
      atI x3.kids (1 : Int) fun x4 =>
      if (decide (x4.i = (1 : Int))) then
        (f79 n (Tm.mk (0 : Int) (0 : Int) (0 : Int) (0 : Int) ([] : List Tm))).bind fun x5 =>
        some (decide (x5.kind = (0 : Int)))
      else
        some false
    else
      some false
  else
    some false
def f80 (n : Nat) : Option Bool := o80_0 n
def an80 : An := .z
def F80 : Fn := { f := 80, a := an80, vars := [.tmp 0], ps := [], rs := [.sc .bool], own := false, fr := true, nt := 34, D := 2, loops := [] }
def cs80 (n : Nat) : List Cal := [⟨79, [.st .tm], [.st .tm], false, fun a => f79 n a.1⟩, ⟨126, [.sc .int], [.st .tm], true, fun a => f126 a.1⟩]
theorem p80_0 (n : Nat) (lab : Nat → SS → Option (RT.den F80.rs)) (x : PTs.den F80.ps) : F80.body (bodyOf Try.f80) tabR tyR true (cs80 n) lab x = o80_0 n := by kernel_rfl
theorem w80 (n : Nat) (x : PTs.den F80.ps) : F80.body (bodyOf Try.f80) tabR tyR true (cs80 n) (F80.labX (bodyOf Try.f80) tabR tyR true (cs80 n) (F80.labM (bodyOf Try.f80) tabR tyR true (cs80 n) 0) F80.D) x = o80_0 n := by
  show F80.body (bodyOf Try.f80) tabR tyR true (cs80 n) (F80.labX (bodyOf Try.f80) tabR tyR true (cs80 n) (F80.labM (bodyOf Try.f80) tabR tyR true (cs80 n) 0) 2) x = _
  rw [p80_0]
theorem call80 : Callable Try.prog 80 := callable_of Try.func80 (by kernel_rfl) (by kernel_rfl)
theorem ok80 (n : Nat) : Cal.Ok Try.prog ⟨80, F80.ps, F80.rs, F80.fr, fun _ => f80 n⟩ :=
  cal_of_fn F80 (code := bodyOf Try.f80) Try.func80 (by kernel_rfl) (by kernel_rfl) call80 htabR (cs := cs80 n) (fun c hc => by
      simp only [cs80, List.mem_cons, List.not_mem_nil, or_false] at hc
      rcases hc with rfl | rfl
      · exact ok79 n
      · exact ok126) (fun _ => mixed) (by kernel_rfl) (by kernel_rfl) (by decide) (fun x => ⟨0, w80 n x⟩)
-- tranship/transhiplaw06.StripMarks
def o15_0 (n : Nat) (k1 : Int → Int → Tm → Tm → Tm → Option Bool) (a0 : Tm) (a1 : Tm) (a2 : Tm) (a3 : Int) (a4 : Int) : Option Bool :=
  (f62 n a0 (300 : Int)).bind fun x1 =>
  if x1 then
    some true
  else
    (f62 n a1 (300 : Int)).bind fun x2 =>
    if x2 then
      some true
    else
      (f62 n a2 (300 : Int)).bind fun x3 =>
      if x3 then
        some true
      else
        (f70 n a0).bind fun x4 =>
        if (!x4) then
          some true
        else
          (f70 n a1).bind fun x5 =>
          if (!x5) then
            some true
          else
            (f70 n a2).bind fun x6 =>
            if (!x6) then
              some true
            else
              if (decide (a3 < (0 : Int))) then
                some true
              else
                if (decide ((1000 : Int) < a3)) then
                  some true
                else
                  if (decide (a4 < (0 : Int))) then
                    some true
                  else
                    if (decide ((1000 : Int) < a4)) then
                      some true
                    else
                      k1 a3 a4 a0 a1 a2
def o15_1 (n : Nat) (t3 : Int) (t4 : Int) (t5 : Tm) (t6 : Tm) (t7 : Tm) : Option Bool :=
  (f79 n (Tm.mk (4 : Int) t3 t4 (0 : Int) [(Tm.mk t5.kind t5.i t5.j t5.n t5.kids), (Tm.mk t6.kind t6.i t6.j t6.n t6.kids), (Tm.mk t7.kind t7.i t7.j t7.n t7.kids)])).bind fun x7 =>
  (f79 n (Tm.mk (4 : Int) (0 : Int) (0 : Int) (0 : Int) [(Tm.mk t5.kind t5.i t5.j t5.n t5.kids), (Tm.mk t7.kind t7.i t7.j t7.n t7.kids), (Tm.mk t7.kind t7.i t7.j t7.n t7.kids)])).bind fun x8 =>
  (f79 n (Tm.mk (5 : Int) t3 t4 (0 : Int) [(Tm.mk t5.kind t5.i t5.j t5.n t5.kids), (Tm.mk t6.kind t6.i t6.j t6.n t6.kids), (Tm.mk t7.kind t7.i t7.j t7.n t7.kids), (Tm.mk t7.kind t7.i t7.j t7.n t7.kids)])).bind fun x9 =>
  (f79 n (Tm.mk (5 : Int) (0 : Int) (0 : Int) (0 : Int) [(Tm.mk t6.kind t6.i t6.j t6.n t6.kids), (Tm.mk t5.kind t5.i t5.j t5.n t5.kids), (Tm.mk t7.kind t7.i t7.j t7.n t7.kids), (Tm.mk t7.kind t7.i t7.j t7.n t7.kids)])).bind fun x10 =>
  if (decide (x7.kind = (14 : Int))) then
    (f68 n x7 x8).bind fun x11 =>
    if x11 then
      if (decide (x9.kind = (15 : Int))) then
        (f68 n x9 x10).bind fun x12 =>
        if x12 then
          (f80 n).bind fun x13 =>
          some x13
        else
          some false
      else
        some false
    else
      some false
  else
    some false
def c15_1 (n : Nat) (t3 : Int) (t4 : Int) (t5 : Tm) (t6 : Tm) (t7 : Tm) : Option Bool :=
  o15_1 n t3 t4 t5 t6 t7
def f15 (n : Nat) (a0 : Tm) (a1 : Tm) (a2 : Tm) (a3 : Int) (a4 : Int) : Option Bool := o15_0 n (c15_1 n) a0 a1 a2 a3 a4
def an15 : An := (.n none [] 0 .z (.n (some 1) [(3, .one .c), (4, .one .c), (5, .ps 0 .tm false), (6, .ps 1 .tm false), (7, .ps 2 .tm false)] 3 .z .z))
def F15 : Fn := { f := 15, a := an15, vars := [.tmp 10], ps := [.st .tm, .st .tm, .st .tm, .sc .int, .sc .int], rs := [.sc .bool], own := false, fr := true, nt := 107, D := 3, loops := [] }
def cs15 (n : Nat) : List Cal := [⟨62, [.st .tm, .sc .int], [.sc .bool], true, fun a => f62 n a.1 a.2.1⟩, ⟨68, [.st .tm, .st .tm], [.sc .bool], true, fun a => f68 n a.1 a.2.1⟩, ⟨70, [.st .tm], [.sc .bool], true, fun a => f70 n a.1⟩, ⟨79, [.st .tm], [.st .tm], false, fun a => f79 n a.1⟩, ⟨80, [], [.sc .bool], true, fun a => f80 n⟩]
def st15_1 (t3 : Int) (t4 : Int) (t5 : Tm) (t6 : Tm) (t7 : Tm) : SS := ⟨[(3, .v (.one (.c (.int t3) true))), (4, .v (.one (.c (.int t4) true))), (5, .v (.one (.ptr 0 0))), (6, .v (.one (.ptr 1 0))), (7, .v (.one (.ptr 2 0)))], [(0, some (.bst .tm t5 false)), (1, some (.bst .tm t6 false)), (2, some (.bst .tm t7 false))], 3⟩
theorem p15_0 (n : Nat) (lab : Nat → SS → Option (RT.den F15.rs)) (x : PTs.den F15.ps) : F15.body (bodyOf Try.f15) tabR tyR true (cs15 n) lab x = o15_0 n (fun t3 t4 t5 t6 t7 => lab 1 (st15_1 t3 t4 t5 t6 t7)) x.1 x.2.1 x.2.2.1 x.2.2.2.1 x.2.2.2.2.1 := by kernel_rfl
theorem p15_1 (n : Nat) (lab : Nat → SS → Option (RT.den F15.rs)) (t3 : Int) (t4 : Int) (t5 : Tm) (t6 : Tm) (t7 : Tm) : F15.at (bodyOf Try.f15) tabR tyR true (cs15 n) lab 1 (st15_1 t3 t4 t5 t6 t7) = o15_1 n t3 t4 t5 t6 t7 := by kernel_rfl
theorem n15_1 (n : Nat) (rec : Nat → SS → Option (RT.den F15.rs)) (d : Nat) (t3 : Int) (t4 : Int) (t5 : Tm) (t6 : Tm) (t7 : Tm) : F15.labD (bodyOf Try.f15) tabR tyR true (cs15 n) rec (d + 1) 1 (st15_1 t3 t4 t5 t6 t7) = c15_1 n t3 t4 t5 t6 t7 := by
  show F15.labD (bodyOf Try.f15) tabR tyR true (cs15 n) rec (d + 1) 1 _ = _
  rw [Fn.labD_succ, p15_1]
  rfl
theorem w15 (n : Nat) (x : PTs.den F15.ps) : F15.body (bodyOf Try.f15) tabR tyR true (cs15 n) (F15.labX (bodyOf Try.f15) tabR tyR true (cs15 n) (F15.labM (bodyOf Try.f15) tabR tyR true (cs15 n) 0) F15.D) x = o15_0 n (c15_1 n) x.1 x.2.1 x.2.2.1 x.2.2.2.1 x.2.2.2.2.1 := by
  have e1 : ∀ t3 t4 t5 t6 t7, F15.labX (bodyOf Try.f15) tabR tyR true (cs15 n) (F15.labM (bodyOf Try.f15) tabR tyR true (cs15 n) 0) 3 1 (st15_1 t3 t4 t5 t6 t7) = c15_1 n t3 t4 t5 t6 t7 := fun t3 t4 t5 t6 t7 => (Fn.labX_step _ _ _ _ _ _ _ _ _ _ (by kernel_rfl)).trans (n15_1 n (F15.labM (bodyOf Try.f15) tabR tyR true (cs15 n) 0) 2 t3 t4 t5 t6 t7)
  show F15.body (bodyOf Try.f15) tabR tyR true (cs15 n) (F15.labX (bodyOf Try.f15) tabR tyR true (cs15 n) (F15.labM (bodyOf Try.f15) tabR tyR true (cs15 n) 0) 3) x = _
  rw [p15_0]
  simp only [e1]
  try rfl
theorem call15 : Callable Try.prog 15 := callable_of Try.func15 (by kernel_rfl) (by kernel_rfl)
theorem ok15 (n : Nat) : Cal.Ok Try.prog ⟨15, F15.ps, F15.rs, F15.fr, fun a => f15 n a.1 a.2.1 a.2.2.1 a.2.2.2.1 a.2.2.2.2.1⟩ :=
  cal_of_fn F15 (code := bodyOf Try.f15) Try.func15 (by kernel_rfl) (by kernel_rfl) call15 htabR (cs := cs15 n) (fun c hc => by
      simp only [cs15, List.mem_cons, List.not_mem_nil, or_false] at hc
      rcases hc with rfl | rfl | rfl | rfl | rfl
      · exact ok62 n
      · exact ok68 n
      · exact ok70 n
      · exact ok79 n
      · exact ok80 n) (fun _ => mixed) (by kernel_rfl) (by kernel_rfl) (by decide) (fun x => ⟨0, w15 n x⟩)
end Go.Proofs.Yteaglcbnkephgaa
