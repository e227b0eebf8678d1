/-
  What the statement computes, as a plain function.
-/
import Derived.Test.YteaglcbnkephgaaGenK
import Derived.Test.YteaglcbnkephgaaGenE
set_option linter.unusedSimpArgs false
set_option linter.unusedVariables false
namespace Go.Proofs.Yteaglcbnkephgaa
open Go Go.RowKit
set_option maxRecDepth 100000
-- tranship/transhiplaw07.v
def o103_0 (a0 : Int) : Option Tm :=
  some (Tm.mk (2 : Int) a0 (0 : Int) (0 : Int) ([] : List Tm))
def f103 (a0 : Int) : Option Tm := o103_0 a0
def an103 : An := .z
def F103 : Fn := { f := 103, a := an103, vars := [.cell 2 45], ps := [.sc .int], rs := [.st .tm], own := false, fr := true, nt := 5, D := 2, loops := [] }
def cs103 : List Cal := []
theorem p103_0 (lab : Nat → SS → Option (RT.den F103.rs)) (x : PTs.den F103.ps) : F103.body (bodyOf Try.f103) tabR tyR true cs103 lab x = o103_0 x.1 := by kernel_rfl
theorem w103 (x : PTs.den F103.ps) : F103.body (bodyOf Try.f103) tabR tyR true cs103 (F103.labX (bodyOf Try.f103) tabR tyR true cs103 (F103.labM (bodyOf Try.f103) tabR tyR true cs103 0) F103.D) x = o103_0 x.1 := by
  show F103.body (bodyOf Try.f103) tabR tyR true cs103 (F103.labX (bodyOf Try.f103) tabR tyR true cs103 (F103.labM (bodyOf Try.f103) tabR tyR true cs103 0) 2) x = _
  rw [p103_0]
theorem call103 : Callable Try.prog 103 := callable_of Try.func103 (by kernel_rfl) (by kernel_rfl)
theorem ok103 : Cal.Ok Try.prog ⟨103, F103.ps, F103.rs, F103.fr, fun a => f103 a.1⟩ :=
  cal_of_fn F103 (code := bodyOf Try.f103) Try.func103 (by kernel_rfl) (by kernel_rfl) call103 htabR (cs := cs103) (fun c hc => by simp only [cs103, List.not_mem_nil] at hc) (fun _ => mixed) (by kernel_rfl) (by kernel_rfl) (by decide) (fun x => ⟨0, w103 x⟩)
-- tranship/transhiplaw07.wakes
def o98_0 (n : Nat) : Option Bool :=
  (f103 (0 : Int)).bind fun x1 =>
  (f103 (1 : Int)).bind fun x2 =>
  (f97 n (Tm.mk (15 : Int) (0 : Int) (0 : Int) (0 : Int) [(Tm.mk x1.kind x1.i x1.j x1.n x1.kids), (Tm.mk x2.kind x2.i x2.j x2.n x2.kids)]) (Tm.mk (1 : Int) (3 : Int) (0 : Int) (0 : Int) ([] : List Tm))).bind fun x3 =>
  if (decide (x3.kind = (15 : Int))) then
    if (decide ((x3.kids.length : Int) = (2 : Int))) then
      atI x3.kids (0 : Int) fun x4 =>
      if (decide (x4.i = (3 : Int))) then
        atI x3.kids (0 : Int) fun x5 =>
        if (decide (x5.kind = (1 : Int))) then
          atI x3.kids (1 : Int) fun x6 =>
          if (decide (x6.kind = (2 : Int))) then
            atI x3.kids (1 : Int) fun x7 =>
            some (decide (x7.i = (0 : Int)))
          else
            some false
        else
          some false
      else
        some false
    else
      some false
  else
    some false
def f98 (n : Nat) : Option Bool := o98_0 n
def an98 : An := .z
def F98 : Fn := { f := 98, a := an98, vars := [.tmp 0], ps := [], rs := [.sc .bool], own := false, fr := true, nt := 49, D := 2, loops := [] }
def cs98 (n : Nat) : List Cal := [⟨97, [.st .tm, .st .tm], [.st .tm], true, fun a => f97 n a.1 a.2.1⟩, ⟨103, [.sc .int], [.st .tm], true, fun a => f103 a.1⟩]
theorem p98_0 (n : Nat) (lab : Nat → SS → Option (RT.den F98.rs)) (x : PTs.den F98.ps) : F98.body (bodyOf Try.f98) tabR tyR true (cs98 n) lab x = o98_0 n := by kernel_rfl
theorem w98 (n : Nat) (x : PTs.den F98.ps) : F98.body (bodyOf Try.f98) tabR tyR true (cs98 n) (F98.labX (bodyOf Try.f98) tabR tyR true (cs98 n) (F98.labM (bodyOf Try.f98) tabR tyR true (cs98 n) 0) F98.D) x = o98_0 n := by
  show F98.body (bodyOf Try.f98) tabR tyR true (cs98 n) (F98.labX (bodyOf Try.f98) tabR tyR true (cs98 n) (F98.labM (bodyOf Try.f98) tabR tyR true (cs98 n) 0) 2) x = _
  rw [p98_0]
theorem call98 : Callable Try.prog 98 := callable_of Try.func98 (by kernel_rfl) (by kernel_rfl)
theorem ok98 (n : Nat) : Cal.Ok Try.prog ⟨98, F98.ps, F98.rs, F98.fr, fun _ => f98 n⟩ :=
  cal_of_fn F98 (code := bodyOf Try.f98) Try.func98 (by kernel_rfl) (by kernel_rfl) call98 htabR (cs := cs98 n) (fun c hc => by
      simp only [cs98, List.mem_cons, List.not_mem_nil, or_false] at hc
      rcases hc with rfl | rfl
      · exact ok97 n
      · exact ok103) (fun _ => mixed) (by kernel_rfl) (by kernel_rfl) (by decide) (fun x => ⟨0, w98 n x⟩)
-- tranship/transhiplaw07.AllExact
def o29_0 (n : Nat) (k1 : (List Tm) → Tm → Option Bool) (a0 : Tm) (a1 : List Tm) : Option Bool :=
  (f62 n a0 (120 : Int)).bind fun x1 =>
  if x1 then
    some true
  else
    (f100 n a1 (120 : Int)).bind fun x2 =>
    if x2 then
      some true
    else
      k1 a1 a0
def o29_1 (n : Nat) (t1 : List Tm) (t2 : Tm) : Option Bool :=
  (f101 n t2 t1).bind fun x3 =>
  (f102 n t2 t1).bind fun x4 =>
  if (x3.2 == x4.2) then
    (f68 n x3.1 x4.1).bind fun x5 =>
    if x5 then
      (f98 n).bind fun x6 =>
      some x6
    else
      some false
  else
    some false
def c29_1 (n : Nat) (t1 : List Tm) (t2 : Tm) : Option Bool :=
  o29_1 n t1 t2
def f29 (n : Nat) (a0 : Tm) (a1 : List Tm) : Option Bool := o29_0 n (c29_1 n) a0 a1
def an29 : An := (.n none [] 0 .z (.n (some 1) [(1, .one (.d .tm false)), (2, .ps 0 .tm false)] 1 .z .z))
def F29 : Fn := { f := 29, a := an29, vars := [.tmp 4], ps := [.st .tm, .sl .tm], rs := [.sc .bool], own := false, fr := true, nt := 38, D := 3, loops := [] }
def cs29 (n : Nat) : List Cal := [⟨62, [.st .tm, .sc .int], [.sc .bool], true, fun a => f62 n a.1 a.2.1⟩, ⟨68, [.st .tm, .st .tm], [.sc .bool], true, fun a => f68 n a.1 a.2.1⟩, ⟨98, [], [.sc .bool], true, fun a => f98 n⟩, ⟨100, [.sl .tm, .sc .int], [.sc .bool], true, fun a => f100 n a.1 a.2.1⟩, ⟨101, [.st .tm, .sl .tm], [.st .tm, .sc .bool], true, fun a => f101 n a.1 a.2.1⟩, ⟨102, [.st .tm, .sl .tm], [.st .tm, .sc .bool], true, fun a => f102 n a.1 a.2.1⟩]
def st29_1 (t1 : List Tm) (t2 : Tm) : SS := ⟨[(1, .v (.one (.c (.sl .tm t1) false))), (2, .v (.one (.ptr 0 0)))], [(0, some (.bst .tm t2 false))], 1⟩
theorem p29_0 (n : Nat) (lab : Nat → SS → Option (RT.den F29.rs)) (x : PTs.den F29.ps) : F29.body (bodyOf Try.f29) tabR tyR true (cs29 n) lab x = o29_0 n (fun t1 t2 => lab 1 (st29_1 t1 t2)) x.1 x.2.1 := by kernel_rfl
theorem p29_1 (n : Nat) (lab : Nat → SS → Option (RT.den F29.rs)) (t1 : List Tm) (t2 : Tm) : F29.at (bodyOf Try.f29) tabR tyR true (cs29 n) lab 1 (st29_1 t1 t2) = o29_1 n t1 t2 := by kernel_rfl
theorem n29_1 (n : Nat) (rec : Nat → SS → Option (RT.den F29.rs)) (d : Nat) (t1 : List Tm) (t2 : Tm) : F29.labD (bodyOf Try.f29) tabR tyR true (cs29 n) rec (d + 1) 1 (st29_1 t1 t2) = c29_1 n t1 t2 := by
  show F29.labD (bodyOf Try.f29) tabR tyR true (cs29 n) rec (d + 1) 1 _ = _
  rw [Fn.labD_succ, p29_1]
  rfl
theorem w29 (n : Nat) (x : PTs.den F29.ps) : F29.body (bodyOf Try.f29) tabR tyR true (cs29 n) (F29.labX (bodyOf Try.f29) tabR tyR true (cs29 n) (F29.labM (bodyOf Try.f29) tabR tyR true (cs29 n) 0) F29.D) x = o29_0 n (c29_1 n) x.1 x.2.1 := by
  have e1 : ∀ t1 t2, F29.labX (bodyOf Try.f29) tabR tyR true (cs29 n) (F29.labM (bodyOf Try.f29) tabR tyR true (cs29 n) 0) 3 1 (st29_1 t1 t2) = c29_1 n t1 t2 := fun t1 t2 => (Fn.labX_step _ _ _ _ _ _ _ _ _ _ (by kernel_rfl)).trans (n29_1 n (F29.labM (bodyOf Try.f29) tabR tyR true (cs29 n) 0) 2 t1 t2)
  show F29.body (bodyOf Try.f29) tabR tyR true (cs29 n) (F29.labX (bodyOf Try.f29) tabR tyR true (cs29 n) (F29.labM (bodyOf Try.f29) tabR tyR true (cs29 n) 0) 3) x = _
  rw [p29_0]
  simp only [e1]
  try rfl
theorem call29 : Callable Try.prog 29 := callable_of Try.func29 (by kernel_rfl) (by kernel_rfl)
theorem ok29 (n : Nat) : Cal.Ok Try.prog ⟨29, F29.ps, F29.rs, F29.fr, fun a => f29 n a.1 a.2.1⟩ :=
  cal_of_fn F29 (code := bodyOf Try.f29) Try.func29 (by kernel_rfl) (by kernel_rfl) call29 htabR (cs := cs29 n) (fun c hc => by
      simp only [cs29, List.mem_cons, List.not_mem_nil, or_false] at hc
      rcases hc with rfl | rfl | rfl | rfl | rfl | rfl
      · exact ok62 n
      · exact ok68 n
      · exact ok98 n
      · exact ok100 n
      · exact ok101 n
      · exact ok102 n) (fun _ => mixed) (by kernel_rfl) (by kernel_rfl) (by decide) (fun x => ⟨0, w29 n x⟩)
end Go.Proofs.Yteaglcbnkephgaa
