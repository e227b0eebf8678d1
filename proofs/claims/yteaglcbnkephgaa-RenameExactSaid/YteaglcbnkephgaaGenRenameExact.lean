/-
  What the statement computes, as a plain function.
-/
import Derived.Test.YteaglcbnkephgaaGenK
import Derived.Test.YteaglcbnkephgaaGenE
set_option linter.unusedSimpArgs false
set_option linter.unusedVariables false
namespace Go.Proofs.Yteaglcbnkephgaa
open Go Go.RowKit
set_option maxRecDepth 100000
-- tranship/transhiplaw05.v
def o133_0 (a0 : Int) : Option Tm :=
  some (Tm.mk (2 : Int) a0 (0 : Int) (0 : Int) ([] : List Tm))
def f133 (a0 : Int) : Option Tm := o133_0 a0
def an133 : An := .z
def F133 : Fn := { f := 133, a := an133, vars := [.cell 2 45], ps := [.sc .int], rs := [.st .tm], own := false, fr := true, nt := 5, D := 2, loops := [] }
def cs133 : List Cal := []
theorem p133_0 (lab : Nat → SS → Option (RT.den F133.rs)) (x : PTs.den F133.ps) : F133.body (bodyOf Try.f133) tabR tyR true cs133 lab x = o133_0 x.1 := by kernel_rfl
theorem w133 (x : PTs.den F133.ps) : F133.body (bodyOf Try.f133) tabR tyR true cs133 (F133.labX (bodyOf Try.f133) tabR tyR true cs133 (F133.labM (bodyOf Try.f133) tabR tyR true cs133 0) F133.D) x = o133_0 x.1 := by
  show F133.body (bodyOf Try.f133) tabR tyR true cs133 (F133.labX (bodyOf Try.f133) tabR tyR true cs133 (F133.labM (bodyOf Try.f133) tabR tyR true cs133 0) 2) x = _
  rw [p133_0]
theorem call133 : Callable Try.prog 133 := callable_of Try.func133 (by kernel_rfl) (by kernel_rfl)
theorem ok133 : Cal.Ok Try.prog ⟨133, F133.ps, F133.rs, F133.fr, fun a => f133 a.1⟩ :=
  cal_of_fn F133 (code := bodyOf Try.f133) Try.func133 (by kernel_rfl) (by kernel_rfl) call133 htabR (cs := cs133) (fun c hc => by simp only [cs133, List.not_mem_nil] at hc) (fun _ => mixed) (by kernel_rfl) (by kernel_rfl) (by decide) (fun x => ⟨0, w133 x⟩)
-- tranship/transhiplaw05.wakes
def o93_0 (n : Nat) : Option Bool :=
  (f133 (0 : Int)).bind fun x1 =>
  (f133 (1 : Int)).bind fun x2 =>
  (f92 n (Tm.mk (14 : Int) (0 : Int) (0 : Int) (0 : Int) [(Tm.mk (1 : Int) (0 : Int) (0 : Int) (0 : Int) ([] : List Tm)), (Tm.mk (15 : Int) (0 : Int) (0 : Int) (0 : Int) [(Tm.mk x1.kind x1.i x1.j x1.n x1.kids), (Tm.mk x2.kind x2.i x2.j x2.n x2.kids)])]) (2 : Int) (0 : Int)).bind fun x3 =>
  (f94 n (Tm.mk (14 : Int) (0 : Int) (0 : Int) (0 : Int) [(Tm.mk (1 : Int) (0 : Int) (0 : Int) (0 : Int) ([] : List Tm)), (Tm.mk (15 : Int) (0 : Int) (0 : Int) (0 : Int) [(Tm.mk x1.kind x1.i x1.j x1.n x1.kids), (Tm.mk x2.kind x2.i x2.j x2.n x2.kids)])]) [(5 : Int)]).bind fun x4 =>
  if (decide ((x3.kids.length : Int) = (2 : Int))) then
    atI x3.kids (1 : Int) fun x5 =>
    if (decide ((x5.kids.length : Int) = (2 : Int))) then
      atI x3.kids (1 : Int) fun x6 =>
      atI x6.kids (1 : Int) fun x7 =>
      if (decide (x7.i = (3 : Int))) then
        atI x3.kids (1 : Int) fun x8 =>
        atI x8.kids (0 : Int) fun x9 =>
        if (decide (x9.i = (0 : Int))) then
          if x4.2 then
            if (decide ((x4.1.kids.length : Int) = (2 : Int))) then
              atI x4.1.kids (1 : Int) fun x10 =>
              if (decide ((x10.kids.length : Int) = (2 : Int))) then
                atI x4.1.kids (1 : Int) fun x11 =>
                atI x11.kids (1 : Int) fun x12 =>
                some (decide (x12.i = (6 : Int)))
              else
                some false
            else
              some false
          else
            some false
        else
          some false
      else
        some false
    else
      some false
  else
    some false
def f93 (n : Nat) : Option Bool := o93_0 n
def an93 : An := .z
def F93 : Fn := { f := 93, a := an93, vars := [.tmp 0], ps := [], rs := [.sc .bool], own := false, fr := true, nt := 84, D := 2, loops := [] }
def cs93 (n : Nat) : List Cal := [⟨92, [.st .tm, .sc .int, .sc .int], [.st .tm], true, fun a => f92 n a.1 a.2.1 a.2.2.1⟩, ⟨94, [.st .tm, .sl .int], [.st .tm, .sc .bool], true, fun a => f94 n a.1 a.2.1⟩, ⟨133, [.sc .int], [.st .tm], true, fun a => f133 a.1⟩]
theorem p93_0 (n : Nat) (lab : Nat → SS → Option (RT.den F93.rs)) (x : PTs.den F93.ps) : F93.body (bodyOf Try.f93) tabR tyR true (cs93 n) lab x = o93_0 n := by kernel_rfl
theorem w93 (n : Nat) (x : PTs.den F93.ps) : F93.body (bodyOf Try.f93) tabR tyR true (cs93 n) (F93.labX (bodyOf Try.f93) tabR tyR true (cs93 n) (F93.labM (bodyOf Try.f93) tabR tyR true (cs93 n) 0) F93.D) x = o93_0 n := by
  show F93.body (bodyOf Try.f93) tabR tyR true (cs93 n) (F93.labX (bodyOf Try.f93) tabR tyR true (cs93 n) (F93.labM (bodyOf Try.f93) tabR tyR true (cs93 n) 0) 2) x = _
  rw [p93_0]
theorem call93 : Callable Try.prog 93 := callable_of Try.func93 (by kernel_rfl) (by kernel_rfl)
theorem ok93 (n : Nat) : Cal.Ok Try.prog ⟨93, F93.ps, F93.rs, F93.fr, fun _ => f93 n⟩ :=
  cal_of_fn F93 (code := bodyOf Try.f93) Try.func93 (by kernel_rfl) (by kernel_rfl) call93 htabR (cs := cs93 n) (fun c hc => by
      simp only [cs93, List.mem_cons, List.not_mem_nil, or_false] at hc
      rcases hc with rfl | rfl | rfl
      · exact ok92 n
      · exact ok94 n
      · exact ok133) (fun _ => mixed) (by kernel_rfl) (by kernel_rfl) (by decide) (fun x => ⟨0, w93 n x⟩)
-- tranship/transhiplaw05.RenameExact
def o23_0 (n : Nat) (k1 : (List Int) → Tm → Option Bool) (a0 : Tm) (a1 : List Int) : Option Bool :=
  (f62 n a0 (300 : Int)).bind fun x1 =>
  if x1 then
    some true
  else
    if (decide ((200 : Int) < (a1.length : Int))) then
      some true
    else
      k1 a1 a0
def o23_1 (n : Nat) (t1 : List Int) (t2 : Tm) : Option Bool :=
  (f94 n t2 t1).bind fun x2 =>
  (f95 n t2 t1).bind fun x3 =>
  if (x2.2 == x3.2) then
    (f68 n x2.1 x3.1).bind fun x4 =>
    if x4 then
      (f93 n).bind fun x5 =>
      some x5
    else
      some false
  else
    some false
def c23_1 (n : Nat) (t1 : List Int) (t2 : Tm) : Option Bool :=
  o23_1 n t1 t2
def f23 (n : Nat) (a0 : Tm) (a1 : List Int) : Option Bool := o23_0 n (c23_1 n) a0 a1
def an23 : An := (.n none [] 0 .z (.n (some 1) [(1, .one (.d .int false)), (2, .ps 0 .tm false)] 1 .z .z))
def F23 : Fn := { f := 23, a := an23, vars := [.tmp 4], ps := [.st .tm, .sl .int], rs := [.sc .bool], own := false, fr := true, nt := 39, D := 3, loops := [] }
def cs23 (n : Nat) : List Cal := [⟨62, [.st .tm, .sc .int], [.sc .bool], true, fun a => f62 n a.1 a.2.1⟩, ⟨68, [.st .tm, .st .tm], [.sc .bool], true, fun a => f68 n a.1 a.2.1⟩, ⟨93, [], [.sc .bool], true, fun a => f93 n⟩, ⟨94, [.st .tm, .sl .int], [.st .tm, .sc .bool], true, fun a => f94 n a.1 a.2.1⟩, ⟨95, [.st .tm, .sl .int], [.st .tm, .sc .bool], true, fun a => f95 n a.1 a.2.1⟩]
def st23_1 (t1 : List Int) (t2 : Tm) : SS := ⟨[(1, .v (.one (.c (.sl .int t1) false))), (2, .v (.one (.ptr 0 0)))], [(0, some (.bst .tm t2 false))], 1⟩
theorem p23_0 (n : Nat) (lab : Nat → SS → Option (RT.den F23.rs)) (x : PTs.den F23.ps) : F23.body (bodyOf Try.f23) tabR tyR true (cs23 n) lab x = o23_0 n (fun t1 t2 => lab 1 (st23_1 t1 t2)) x.1 x.2.1 := by kernel_rfl
theorem p23_1 (n : Nat) (lab : Nat → SS → Option (RT.den F23.rs)) (t1 : List Int) (t2 : Tm) : F23.at (bodyOf Try.f23) tabR tyR true (cs23 n) lab 1 (st23_1 t1 t2) = o23_1 n t1 t2 := by kernel_rfl
theorem n23_1 (n : Nat) (rec : Nat → SS → Option (RT.den F23.rs)) (d : Nat) (t1 : List Int) (t2 : Tm) : F23.labD (bodyOf Try.f23) tabR tyR true (cs23 n) rec (d + 1) 1 (st23_1 t1 t2) = c23_1 n t1 t2 := by
  show F23.labD (bodyOf Try.f23) tabR tyR true (cs23 n) rec (d + 1) 1 _ = _
  rw [Fn.labD_succ, p23_1]
  rfl
theorem w23 (n : Nat) (x : PTs.den F23.ps) : F23.body (bodyOf Try.f23) tabR tyR true (cs23 n) (F23.labX (bodyOf Try.f23) tabR tyR true (cs23 n) (F23.labM (bodyOf Try.f23) tabR tyR true (cs23 n) 0) F23.D) x = o23_0 n (c23_1 n) x.1 x.2.1 := by
  have e1 : ∀ t1 t2, F23.labX (bodyOf Try.f23) tabR tyR true (cs23 n) (F23.labM (bodyOf Try.f23) tabR tyR true (cs23 n) 0) 3 1 (st23_1 t1 t2) = c23_1 n t1 t2 := fun t1 t2 => (Fn.labX_step _ _ _ _ _ _ _ _ _ _ (by kernel_rfl)).trans (n23_1 n (F23.labM (bodyOf Try.f23) tabR tyR true (cs23 n) 0) 2 t1 t2)
  show F23.body (bodyOf Try.f23) tabR tyR true (cs23 n) (F23.labX (bodyOf Try.f23) tabR tyR true (cs23 n) (F23.labM (bodyOf Try.f23) tabR tyR true (cs23 n) 0) 3) x = _
  rw [p23_0]
  simp only [e1]
  try rfl
theorem call23 : Callable Try.prog 23 := callable_of Try.func23 (by kernel_rfl) (by kernel_rfl)
theorem ok23 (n : Nat) : Cal.Ok Try.prog ⟨23, F23.ps, F23.rs, F23.fr, fun a => f23 n a.1 a.2.1⟩ :=
  cal_of_fn F23 (code := bodyOf Try.f23) Try.func23 (by kernel_rfl) (by kernel_rfl) call23 htabR (cs := cs23 n) (fun c hc => by
      simp only [cs23, List.mem_cons, List.not_mem_nil, or_false] at hc
      rcases hc with rfl | rfl | rfl | rfl | rfl
      · exact ok62 n
      · exact ok68 n
      · exact ok93 n
      · exact ok94 n
      · exact ok95 n) (fun _ => mixed) (by kernel_rfl) (by kernel_rfl) (by decide) (fun x => ⟨0, w23 n x⟩)
end Go.Proofs.Yteaglcbnkephgaa
