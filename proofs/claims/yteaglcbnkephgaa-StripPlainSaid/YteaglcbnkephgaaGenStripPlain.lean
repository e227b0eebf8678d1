/-
  What the statement computes, as a plain function.
-/
import Derived.Test.YteaglcbnkephgaaGenK
import Derived.Test.YteaglcbnkephgaaGenE
set_option linter.unusedSimpArgs false
set_option linter.unusedVariables false
namespace Go.Proofs.Yteaglcbnkephgaa
open Go Go.RowKit
set_option maxRecDepth 100000
-- tranship/transhiplaw06.s
def o126_0 (a0 : Int) : Option Tm :=
  some (Tm.mk (1 : Int) a0 (0 : Int) (0 : Int) ([] : List Tm))
def f126 (a0 : Int) : Option Tm := o126_0 a0
def an126 : An := .z
def F126 : Fn := { f := 126, a := an126, vars := [.cell 2 45], ps := [.sc .int], rs := [.st .tm], own := false, fr := true, nt := 5, D := 2, loops := [] }
def cs126 : List Cal := []
theorem p126_0 (lab : Nat → SS → Option (RT.den F126.rs)) (x : PTs.den F126.ps) : F126.body (bodyOf Try.f126) tabR tyR true cs126 lab x = o126_0 x.1 := by kernel_rfl
theorem w126 (x : PTs.den F126.ps) : F126.body (bodyOf Try.f126) tabR tyR true cs126 (F126.labX (bodyOf Try.f126) tabR tyR true cs126 (F126.labM (bodyOf Try.f126) tabR tyR true cs126 0) F126.D) x = o126_0 x.1 := by
  show F126.body (bodyOf Try.f126) tabR tyR true cs126 (F126.labX (bodyOf Try.f126) tabR tyR true cs126 (F126.labM (bodyOf Try.f126) tabR tyR true cs126 0) 2) x = _
  rw [p126_0]
theorem call126 : Callable Try.prog 126 := callable_of Try.func126 (by kernel_rfl) (by kernel_rfl)
theorem ok126 : Cal.Ok Try.prog ⟨126, F126.ps, F126.rs, F126.fr, fun a => f126 a.1⟩ :=
  cal_of_fn F126 (code := bodyOf Try.f126) Try.func126 (by kernel_rfl) (by kernel_rfl) call126 htabR (cs := cs126) (fun c hc => by simp only [cs126, List.not_mem_nil] at hc) (fun _ => mixed) (by kernel_rfl) (by kernel_rfl) (by decide) (fun x => ⟨0, w126 x⟩)
-- tranship/transhiplaw06.wakes
def o80_0 (n : Nat) : Option Bool :=
  (f126 (0 : Int)).bind fun x1 =>
  (f126 (0 : Int)).bind fun x2 =>
  (f79 n (Tm.mk (5 : Int) (0 : Int) (0 : Int) (0 : Int) [(Tm.mk x1.kind x1.i x1.j x1.n x1.kids), (Tm.mk x2.kind x2.i x2.j x2.n x2.kids), (Tm.mk (2 : Int) (0 : Int) (0 : Int) (0 : Int) ([] : List Tm)), (Tm.mk (2 : Int) (1 : Int) (0 : Int) (0 : Int) ([] : List Tm))])).bind fun x3 =>
  if (decide (x3.kind = (15 : Int))) then
    if (decide ((x3.kids.length : Int) = (2 : Int))) then
      atI x3.kids (1 : Int) fun x4 =>
      if (decide (x4.i = (1 : Int))) then
        (f79 n (Tm.mk (0 : Int) (0 : Int) (0 : Int) (0 : Int) ([] : List Tm))).bind fun x5 =>
        some (decide (x5.kind = (0 : Int)))
      else
        some false
    else
      some false
  else
    some false
def f80 (n : Nat) : Option Bool := o80_0 n
def an80 : An := .z
def F80 : Fn := { f := 80, a := an80, vars := [.tmp 0], ps := [], rs := [.sc .bool], own := false, fr := true, nt := 34, D := 2, loops := [] }
def cs80 (n : Nat) : List Cal := [⟨79, [.st .tm], [.st .tm], false, fun a => f79 n a.1⟩, ⟨126, [.sc .int], [.st .tm], true, fun a => f126 a.1⟩]
theorem p80_0 (n : Nat) (lab : Nat → SS → Option (RT.den F80.rs)) (x : PTs.den F80.ps) : F80.body (bodyOf Try.f80) tabR tyR true (cs80 n) lab x = o80_0 n := by kernel_rfl
theorem w80 (n : Nat) (x : PTs.den F80.ps) : F80.body (bodyOf Try.f80) tabR tyR true (cs80 n) (F80.labX (bodyOf Try.f80) tabR tyR true (cs80 n) (F80.labM (bodyOf Try.f80) tabR tyR true (cs80 n) 0) F80.D) x = o80_0 n := by
  show F80.body (bodyOf Try.f80) tabR tyR true (cs80 n) (F80.labX (bodyOf Try.f80) tabR tyR true (cs80 n) (F80.labM (bodyOf Try.f80) tabR tyR true (cs80 n) 0) 2) x = _
  rw [p80_0]
theorem call80 : Callable Try.prog 80 := callable_of Try.func80 (by kernel_rfl) (by kernel_rfl)
theorem ok80 (n : Nat) : Cal.Ok Try.prog ⟨80, F80.ps, F80.rs, F80.fr, fun _ => f80 n⟩ :=
  cal_of_fn F80 (code := bodyOf Try.f80) Try.func80 (by kernel_rfl) (by kernel_rfl) call80 htabR (cs := cs80 n) (fun c hc => by
      simp only [cs80, List.mem_cons, List.not_mem_nil, or_false] at hc
      rcases hc with rfl | rfl
      · exact ok79 n
      · exact ok126) (fun _ => mixed) (by kernel_rfl) (by kernel_rfl) (by decide) (fun x => ⟨0, w80 n x⟩)
-- tranship/transhiplaw06.StripPlain
def o14_0 (n : Nat) (k1 : Tm → Option Bool) (a0 : Tm) : Option Bool :=
  (f62 n a0 (300 : Int)).bind fun x1 =>
  if x1 then
    some true
  else
    (f81 n a0).bind fun x2 =>
    if (!x2) then
      some true
    else
      k1 a0
def o14_1 (n : Nat) (t1 : Tm) : Option Bool :=
  (f79 n t1).bind fun x3 =>
  (f77 n x3).bind fun x4 =>
  if x4 then
    (f79 n x3).bind fun x5 =>
    (f68 n x5 x3).bind fun x6 =>
    if x6 then
      (f82 n x3).bind fun x7 =>
      (f82 n t1).bind fun x8 =>
      if (decide (x7 ≤ x8)) then
        (f80 n).bind fun x9 =>
        some x9
      else
        some false
    else
      some false
  else
    some false
def c14_1 (n : Nat) (t1 : Tm) : Option Bool :=
  o14_1 n t1
def f14 (n : Nat) (a0 : Tm) : Option Bool := o14_0 n (c14_1 n) a0
def an14 : An := (.n none [] 0 .z (.n (some 1) [(1, .ps 0 .tm false)] 1 .z .z))
def F14 : Fn := { f := 14, a := an14, vars := [.tmp 2], ps := [.st .tm], rs := [.sc .bool], own := false, fr := true, nt := 31, D := 3, loops := [] }
def cs14 (n : Nat) : List Cal := [⟨62, [.st .tm, .sc .int], [.sc .bool], true, fun a => f62 n a.1 a.2.1⟩, ⟨68, [.st .tm, .st .tm], [.sc .bool], true, fun a => f68 n a.1 a.2.1⟩, ⟨77, [.st .tm], [.sc .bool], true, fun a => f77 n a.1⟩, ⟨79, [.st .tm], [.st .tm], false, fun a => f79 n a.1⟩, ⟨80, [], [.sc .bool], true, fun a => f80 n⟩, ⟨81, [.st .tm], [.sc .bool], true, fun a => f81 n a.1⟩, ⟨82, [.st .tm], [.sc .int], true, fun a => f82 n a.1⟩]
def st14_1 (t1 : Tm) : SS := ⟨[(1, .v (.one (.ptr 0 0)))], [(0, some (.bst .tm t1 false))], 1⟩
theorem p14_0 (n : Nat) (lab : Nat → SS → Option (RT.den F14.rs)) (x : PTs.den F14.ps) : F14.body (bodyOf Try.f14) tabR tyR true (cs14 n) lab x = o14_0 n (fun t1 => lab 1 (st14_1 t1)) x.1 := by kernel_rfl
theorem p14_1 (n : Nat) (lab : Nat → SS → Option (RT.den F14.rs)) (t1 : Tm) : F14.at (bodyOf Try.f14) tabR tyR true (cs14 n) lab 1 (st14_1 t1) = o14_1 n t1 := by kernel_rfl
theorem n14_1 (n : Nat) (rec : Nat → SS → Option (RT.den F14.rs)) (d : Nat) (t1 : Tm) : F14.labD (bodyOf Try.f14) tabR tyR true (cs14 n) rec (d + 1) 1 (st14_1 t1) = c14_1 n t1 := by
  show F14.labD (bodyOf Try.f14) tabR tyR true (cs14 n) rec (d + 1) 1 _ = _
  rw [Fn.labD_succ, p14_1]
  rfl
theorem w14 (n : Nat) (x : PTs.den F14.ps) : F14.body (bodyOf Try.f14) tabR tyR true (cs14 n) (F14.labX (bodyOf Try.f14) tabR tyR true (cs14 n) (F14.labM (bodyOf Try.f14) tabR tyR true (cs14 n) 0) F14.D) x = o14_0 n (c14_1 n) x.1 := by
  have e1 : ∀ t1, F14.labX (bodyOf Try.f14) tabR tyR true (cs14 n) (F14.labM (bodyOf Try.f14) tabR tyR true (cs14 n) 0) 3 1 (st14_1 t1) = c14_1 n t1 := fun t1 => (Fn.labX_step _ _ _ _ _ _ _ _ _ _ (by kernel_rfl)).trans (n14_1 n (F14.labM (bodyOf Try.f14) tabR tyR true (cs14 n) 0) 2 t1)
  show F14.body (bodyOf Try.f14) tabR tyR true (cs14 n) (F14.labX (bodyOf Try.f14) tabR tyR true (cs14 n) (F14.labM (bodyOf Try.f14) tabR tyR true (cs14 n) 0) 3) x = _
  rw [p14_0]
  simp only [e1]
  try rfl
theorem call14 : Callable Try.prog 14 := callable_of Try.func14 (by kernel_rfl) (by kernel_rfl)
theorem ok14 (n : Nat) : Cal.Ok Try.prog ⟨14, F14.ps, F14.rs, F14.fr, fun a => f14 n a.1⟩ :=
  cal_of_fn F14 (code := bodyOf Try.f14) Try.func14 (by kernel_rfl) (by kernel_rfl) call14 htabR (cs := cs14 n) (fun c hc => by
      simp only [cs14, List.mem_cons, List.not_mem_nil, or_false] at hc
      rcases hc with rfl | rfl | rfl | rfl | rfl | rfl | rfl
      · exact ok62 n
      · exact ok68 n
      · exact ok77 n
      · exact ok79 n
      · exact ok80 n
      · exact ok81 n
      · exact ok82 n) (fun _ => mixed) (by kernel_rfl) (by kernel_rfl) (by decide) (fun x => ⟨0, w14 n x⟩)
end Go.Proofs.Yteaglcbnkephgaa
