/-
  What the statement computes, as a plain function.
-/
import Derived.Test.YteaglcbnkephgaaGenK
import Derived.Test.YteaglcbnkephgaaGenE
set_option linter.unusedSimpArgs false
set_option linter.unusedVariables false
namespace Go.Proofs.Yteaglcbnkephgaa
open Go Go.RowKit
set_option maxRecDepth 100000
-- tranship/transhiplaw08.v
def o121_0 (a0 : Int) : Option Tm :=
  some (Tm.mk (2 : Int) a0 (0 : Int) (0 : Int) ([] : List Tm))
def f121 (a0 : Int) : Option Tm := o121_0 a0
def an121 : An := .z
def F121 : Fn := { f := 121, a := an121, vars := [.cell 2 45], ps := [.sc .int], rs := [.st .tm], own := false, fr := true, nt := 5, D := 2, loops := [] }
def cs121 : List Cal := []
theorem p121_0 (lab : Nat → SS → Option (RT.den F121.rs)) (x : PTs.den F121.ps) : F121.body (bodyOf Try.f121) tabR tyR true cs121 lab x = o121_0 x.1 := by kernel_rfl
theorem w121 (x : PTs.den F121.ps) : F121.body (bodyOf Try.f121) tabR tyR true cs121 (F121.labX (bodyOf Try.f121) tabR tyR true cs121 (F121.labM (bodyOf Try.f121) tabR tyR true cs121 0) F121.D) x = o121_0 x.1 := by
  show F121.body (bodyOf Try.f121) tabR tyR true cs121 (F121.labX (bodyOf Try.f121) tabR tyR true cs121 (F121.labM (bodyOf Try.f121) tabR tyR true cs121 0) 2) x = _
  rw [p121_0]
theorem call121 : Callable Try.prog 121 := callable_of Try.func121 (by kernel_rfl) (by kernel_rfl)
theorem ok121 : Cal.Ok Try.prog ⟨121, F121.ps, F121.rs, F121.fr, fun a => f121 a.1⟩ :=
  cal_of_fn F121 (code := bodyOf Try.f121) Try.func121 (by kernel_rfl) (by kernel_rfl) call121 htabR (cs := cs121) (fun c hc => by simp only [cs121, List.not_mem_nil] at hc) (fun _ => mixed) (by kernel_rfl) (by kernel_rfl) (by decide) (fun x => ⟨0, w121 x⟩)
-- tranship/transhiplaw08.wakes
def o73_0 (n : Nat) : Option Bool :=
  (f121 (1 : Int)).bind fun x1 =>
  (f121 (2 : Int)).bind fun x2 =>
  (f121 (3 : Int)).bind fun x3 =>
  (f121 (0 : Int)).bind fun x4 =>
  (f67 n (Tm.mk (12 : Int) (0 : Int) (0 : Int) (0 : Int) [(Tm.mk x1.kind x1.i x1.j x1.n x1.kids), (Tm.mk x2.kind x2.i x2.j x2.n x2.kids), (Tm.mk x3.kind x3.i x3.j x3.n x3.kids), (Tm.mk x4.kind x4.i x4.j x4.n x4.kids)])).bind fun x5 =>
  if (decide (x5.kind = (2 : Int))) then
    if (decide (x5.i = (0 : Int))) then
      (f72 n (Tm.mk (12 : Int) (0 : Int) (0 : Int) (0 : Int) [(Tm.mk x1.kind x1.i x1.j x1.n x1.kids), (Tm.mk x2.kind x2.i x2.j x2.n x2.kids), (Tm.mk x3.kind x3.i x3.j x3.n x3.kids), (Tm.mk x4.kind x4.i x4.j x4.n x4.kids)])).bind fun x6 =>
      if (decide (x6 = (1 : Int))) then
        (f121 (0 : Int)).bind fun x7 =>
        (f75 n (Tm.mk (12 : Int) (0 : Int) (0 : Int) (0 : Int) [(Tm.mk x1.kind x1.i x1.j x1.n x1.kids), (Tm.mk x2.kind x2.i x2.j x2.n x2.kids), (Tm.mk x3.kind x3.i x3.j x3.n x3.kids), (Tm.mk x4.kind x4.i x4.j x4.n x4.kids)]) x7).bind fun x8 =>
        if x8 then
          (f121 (1 : Int)).bind fun x9 =>
          (f75 n (Tm.mk (12 : Int) (0 : Int) (0 : Int) (0 : Int) [(Tm.mk x1.kind x1.i x1.j x1.n x1.kids), (Tm.mk x2.kind x2.i x2.j x2.n x2.kids), (Tm.mk x3.kind x3.i x3.j x3.n x3.kids), (Tm.mk x4.kind x4.i x4.j x4.n x4.kids)]) x9).bind fun x10 =>
          some (!x10)
        else
          some false
      else
        some false
    else
      some false
  else
    some false
def f73 (n : Nat) : Option Bool := o73_0 n
def an73 : An := .z
def F73 : Fn := { f := 73, a := an73, vars := [.tmp 0], ps := [], rs := [.sc .bool], own := false, fr := true, nt := 35, D := 2, loops := [] }
def cs73 (n : Nat) : List Cal := [⟨67, [.st .tm], [.st .tm], true, fun a => f67 n a.1⟩, ⟨72, [.st .tm], [.sc .int], true, fun a => f72 n a.1⟩, ⟨75, [.st .tm, .st .tm], [.sc .bool], true, fun a => f75 n a.1 a.2.1⟩, ⟨121, [.sc .int], [.st .tm], true, fun a => f121 a.1⟩]
theorem p73_0 (n : Nat) (lab : Nat → SS → Option (RT.den F73.rs)) (x : PTs.den F73.ps) : F73.body (bodyOf Try.f73) tabR tyR true (cs73 n) lab x = o73_0 n := by kernel_rfl
theorem w73 (n : Nat) (x : PTs.den F73.ps) : F73.body (bodyOf Try.f73) tabR tyR true (cs73 n) (F73.labX (bodyOf Try.f73) tabR tyR true (cs73 n) (F73.labM (bodyOf Try.f73) tabR tyR true (cs73 n) 0) F73.D) x = o73_0 n := by
  show F73.body (bodyOf Try.f73) tabR tyR true (cs73 n) (F73.labX (bodyOf Try.f73) tabR tyR true (cs73 n) (F73.labM (bodyOf Try.f73) tabR tyR true (cs73 n) 0) 2) x = _
  rw [p73_0]
theorem call73 : Callable Try.prog 73 := callable_of Try.func73 (by kernel_rfl) (by kernel_rfl)
theorem ok73 (n : Nat) : Cal.Ok Try.prog ⟨73, F73.ps, F73.rs, F73.fr, fun _ => f73 n⟩ :=
  cal_of_fn F73 (code := bodyOf Try.f73) Try.func73 (by kernel_rfl) (by kernel_rfl) call73 htabR (cs := cs73 n) (fun c hc => by
      simp only [cs73, List.mem_cons, List.not_mem_nil, or_false] at hc
      rcases hc with rfl | rfl | rfl | rfl
      · exact ok67 n
      · exact ok72 n
      · exact ok75 n
      · exact ok121) (fun _ => mixed) (by kernel_rfl) (by kernel_rfl) (by decide) (fun x => ⟨0, w73 n x⟩)
-- tranship/transhiplaw08.EraseGoes
def o33_0 (n : Nat) (k1 : Int → Tm → Tm → Option Bool) (a0 : Tm) (a1 : Tm) (a2 : Int) : Option Bool :=
  (f62 n a0 (250 : Int)).bind fun x1 =>
  if x1 then
    some true
  else
    (f62 n a1 (250 : Int)).bind fun x2 =>
    if x2 then
      some true
    else
      (f70 n a0).bind fun x3 =>
      if (!x3) then
        some true
      else
        (f70 n a1).bind fun x4 =>
        if (!x4) then
          some true
        else
          if (decide (a2 < (0 : Int))) then
            some true
          else
            if (decide ((1000 : Int) < a2)) then
              some true
            else
              (f82 n a0).bind fun x5 =>
              if (decide ((1000 : Int) < x5)) then
                some true
              else
                (f82 n a1).bind fun x6 =>
                if (decide ((1000 : Int) < x6)) then
                  some true
                else
                  k1 a2 a0 a1
def o33_1 (n : Nat) (t2 : Int) (t3 : Tm) (t4 : Tm) : Option Bool :=
  (f67 n t3).bind fun x7 =>
  (f67 n t4).bind fun x8 =>
  (f92 n t3 t2 (0 : Int)).bind fun x9 =>
  (f67 n x9).bind fun x10 =>
  (f92 n x7 t2 (0 : Int)).bind fun x11 =>
  (f68 n x10 x11).bind fun x12 =>
  if x12 then
    (f97 n t3 t4).bind fun x13 =>
    (f67 n x13).bind fun x14 =>
    (f97 n x7 x8).bind fun x15 =>
    (f68 n x14 x15).bind fun x16 =>
    if x16 then
      (f73 n).bind fun x17 =>
      some x17
    else
      some false
  else
    some false
def c33_1 (n : Nat) (t2 : Int) (t3 : Tm) (t4 : Tm) : Option Bool :=
  o33_1 n t2 t3 t4
def f33 (n : Nat) (a0 : Tm) (a1 : Tm) (a2 : Int) : Option Bool := o33_0 n (c33_1 n) a0 a1 a2
def an33 : An := (.n none [] 0 .z (.n (some 1) [(2, .one .c), (3, .ps 0 .tm false), (4, .ps 1 .tm false)] 2 .z .z))
def F33 : Fn := { f := 33, a := an33, vars := [.tmp 6], ps := [.st .tm, .st .tm, .sc .int], rs := [.sc .bool], own := false, fr := true, nt := 68, D := 3, loops := [] }
def cs33 (n : Nat) : List Cal := [⟨62, [.st .tm, .sc .int], [.sc .bool], true, fun a => f62 n a.1 a.2.1⟩, ⟨67, [.st .tm], [.st .tm], true, fun a => f67 n a.1⟩, ⟨68, [.st .tm, .st .tm], [.sc .bool], true, fun a => f68 n a.1 a.2.1⟩, ⟨70, [.st .tm], [.sc .bool], true, fun a => f70 n a.1⟩, ⟨73, [], [.sc .bool], true, fun a => f73 n⟩, ⟨82, [.st .tm], [.sc .int], true, fun a => f82 n a.1⟩, ⟨92, [.st .tm, .sc .int, .sc .int], [.st .tm], true, fun a => f92 n a.1 a.2.1 a.2.2.1⟩, ⟨97, [.st .tm, .st .tm], [.st .tm], true, fun a => f97 n a.1 a.2.1⟩]
def st33_1 (t2 : Int) (t3 : Tm) (t4 : Tm) : SS := ⟨[(2, .v (.one (.c (.int t2) true))), (3, .v (.one (.ptr 0 0))), (4, .v (.one (.ptr 1 0)))], [(0, some (.bst .tm t3 false)), (1, some (.bst .tm t4 false))], 2⟩
theorem p33_0 (n : Nat) (lab : Nat → SS → Option (RT.den F33.rs)) (x : PTs.den F33.ps) : F33.body (bodyOf Try.f33) tabR tyR true (cs33 n) lab x = o33_0 n (fun t2 t3 t4 => lab 1 (st33_1 t2 t3 t4)) x.1 x.2.1 x.2.2.1 := by kernel_rfl
theorem p33_1 (n : Nat) (lab : Nat → SS → Option (RT.den F33.rs)) (t2 : Int) (t3 : Tm) (t4 : Tm) : F33.at (bodyOf Try.f33) tabR tyR true (cs33 n) lab 1 (st33_1 t2 t3 t4) = o33_1 n t2 t3 t4 := by kernel_rfl
theorem n33_1 (n : Nat) (rec : Nat → SS → Option (RT.den F33.rs)) (d : Nat) (t2 : Int) (t3 : Tm) (t4 : Tm) : F33.labD (bodyOf Try.f33) tabR tyR true (cs33 n) rec (d + 1) 1 (st33_1 t2 t3 t4) = c33_1 n t2 t3 t4 := by
  show F33.labD (bodyOf Try.f33) tabR tyR true (cs33 n) rec (d + 1) 1 _ = _
  rw [Fn.labD_succ, p33_1]
  rfl
theorem w33 (n : Nat) (x : PTs.den F33.ps) : F33.body (bodyOf Try.f33) tabR tyR true (cs33 n) (F33.labX (bodyOf Try.f33) tabR tyR true (cs33 n) (F33.labM (bodyOf Try.f33) tabR tyR true (cs33 n) 0) F33.D) x = o33_0 n (c33_1 n) x.1 x.2.1 x.2.2.1 := by
  have e1 : ∀ t2 t3 t4, F33.labX (bodyOf Try.f33) tabR tyR true (cs33 n) (F33.labM (bodyOf Try.f33) tabR tyR true (cs33 n) 0) 3 1 (st33_1 t2 t3 t4) = c33_1 n t2 t3 t4 := fun t2 t3 t4 => (Fn.labX_step _ _ _ _ _ _ _ _ _ _ (by kernel_rfl)).trans (n33_1 n (F33.labM (bodyOf Try.f33) tabR tyR true (cs33 n) 0) 2 t2 t3 t4)
  show F33.body (bodyOf Try.f33) tabR tyR true (cs33 n) (F33.labX (bodyOf Try.f33) tabR tyR true (cs33 n) (F33.labM (bodyOf Try.f33) tabR tyR true (cs33 n) 0) 3) x = _
  rw [p33_0]
  simp only [e1]
  try rfl
theorem call33 : Callable Try.prog 33 := callable_of Try.func33 (by kernel_rfl) (by kernel_rfl)
theorem ok33 (n : Nat) : Cal.Ok Try.prog ⟨33, F33.ps, F33.rs, F33.fr, fun a => f33 n a.1 a.2.1 a.2.2.1⟩ :=
  cal_of_fn F33 (code := bodyOf Try.f33) Try.func33 (by kernel_rfl) (by kernel_rfl) call33 htabR (cs := cs33 n) (fun c hc => by
      simp only [cs33, List.mem_cons, List.not_mem_nil, or_false] at hc
      rcases hc with rfl | rfl | rfl | rfl | rfl | rfl | rfl | rfl
      · exact ok62 n
      · exact ok67 n
      · exact ok68 n
      · exact ok70 n
      · exact ok73 n
      · exact ok82 n
      · exact ok92 n
      · exact ok97 n) (fun _ => mixed) (by kernel_rfl) (by kernel_rfl) (by decide) (fun x => ⟨0, w33 n x⟩)
end Go.Proofs.Yteaglcbnkephgaa
