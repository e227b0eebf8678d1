/-
  What the statement computes, as a plain function.
-/
import Derived.Test.YteaglcbnkephgaaGenK
import Derived.Test.YteaglcbnkephgaaGenE
set_option linter.unusedSimpArgs false
set_option linter.unusedVariables false
namespace Go.Proofs.Yteaglcbnkephgaa
open Go Go.RowKit
set_option maxRecDepth 100000
-- tranship/transhiplaw08.v
def o121_0 (a0 : Int) : Option Tm :=
  some (Tm.mk (2 : Int) a0 (0 : Int) (0 : Int) ([] : List Tm))
def f121 (a0 : Int) : Option Tm := o121_0 a0
def an121 : An := .z
def F121 : Fn := { f := 121, a := an121, vars := [.cell 2 45], ps := [.sc .int], rs := [.st .tm], own := false, fr := true, nt := 5, D := 2, loops := [] }
def cs121 : List Cal := []
theorem p121_0 (lab : Nat → SS → Option (RT.den F121.rs)) (x : PTs.den F121.ps) : F121.body (bodyOf Try.f121) tabR tyR true cs121 lab x = o121_0 x.1 := by kernel_rfl
theorem w121 (x : PTs.den F121.ps) : F121.body (bodyOf Try.f121) tabR tyR true cs121 (F121.labX (bodyOf Try.f121) tabR tyR true cs121 (F121.labM (bodyOf Try.f121) tabR tyR true cs121 0) F121.D) x = o121_0 x.1 := by
  show F121.body (bodyOf Try.f121) tabR tyR true cs121 (F121.labX (bodyOf Try.f121) tabR tyR true cs121 (F121.labM (bodyOf Try.f121) tabR tyR true cs121 0) 2) x = _
  rw [p121_0]
theorem call121 : Callable Try.prog 121 := callable_of Try.func121 (by kernel_rfl) (by kernel_rfl)
theorem ok121 : Cal.Ok Try.prog ⟨121, F121.ps, F121.rs, F121.fr, fun a => f121 a.1⟩ :=
  cal_of_fn F121 (code := bodyOf Try.f121) Try.func121 (by kernel_rfl) (by kernel_rfl) call121 htabR (cs := cs121) (fun c hc => by simp only [cs121, List.not_mem_nil] at hc) (fun _ => mixed) (by kernel_rfl) (by kernel_rfl) (by decide) (fun x => ⟨0, w121 x⟩)
-- tranship/transhiplaw08.wakes
def o73_0 (n : Nat) : Option Bool :=
  (f121 (1 : Int)).bind fun x1 =>
  (f121 (2 : Int)).bind fun x2 =>
  (f121 (3 : Int)).bind fun x3 =>
  (f121 (0 : Int)).bind fun x4 =>
  (f67 n (Tm.mk (12 : Int) (0 : Int) (0 : Int) (0 : Int) [(Tm.mk x1.kind x1.i x1.j x1.n x1.kids), (Tm.mk x2.kind x2.i x2.j x2.n x2.kids), (Tm.mk x3.kind x3.i x3.j x3.n x3.kids), (Tm.mk x4.kind x4.i x4.j x4.n x4.kids)])).bind fun x5 =>
  if (decide (x5.kind = (2 : Int))) then
    if (decide (x5.i = (0 : Int))) then
      (f72 n (Tm.mk (12 : Int) (0 : Int) (0 : Int) (0 : Int) [(Tm.mk x1.kind x1.i x1.j x1.n x1.kids), (Tm.mk x2.kind x2.i x2.j x2.n x2.kids), (Tm.mk x3.kind x3.i x3.j x3.n x3.kids), (Tm.mk x4.kind x4.i x4.j x4.n x4.kids)])).bind fun x6 =>
      if (decide (x6 = (1 : Int))) then
        (f121 (0 : Int)).bind fun x7 =>
        (f75 n (Tm.mk (12 : Int) (0 : Int) (0 : Int) (0 : Int) [(Tm.mk x1.kind x1.i x1.j x1.n x1.kids), (Tm.mk x2.kind x2.i x2.j x2.n x2.kids), (Tm.mk x3.kind x3.i x3.j x3.n x3.kids), (Tm.mk x4.kind x4.i x4.j x4.n x4.kids)]) x7).bind fun x8 =>
        if x8 then
          (f121 (1 : Int)).bind fun x9 =>
          (f75 n (Tm.mk (12 : Int) (0 : Int) (0 : Int) (0 : Int) [(Tm.mk x1.kind x1.i x1.j x1.n x1.kids), (Tm.mk x2.kind x2.i x2.j x2.n x2.kids), (Tm.mk x3.kind x3.i x3.j x3.n x3.kids), (Tm.mk x4.kind x4.i x4.j x4.n x4.kids)]) x9).bind fun x10 =>
          some (!x10)
        else
          some false
      else
        some false
    else
      some false
  else
    some false
def f73 (n : Nat) : Option Bool := o73_0 n
def an73 : An := .z
def F73 : Fn := { f := 73, a := an73, vars := [.tmp 0], ps := [], rs := [.sc .bool], own := false, fr := true, nt := 35, D := 2, loops := [] }
def cs73 (n : Nat) : List Cal := [⟨67, [.st .tm], [.st .tm], true, fun a => f67 n a.1⟩, ⟨72, [.st .tm], [.sc .int], true, fun a => f72 n a.1⟩, ⟨75, [.st .tm, .st .tm], [.sc .bool], true, fun a => f75 n a.1 a.2.1⟩, ⟨121, [.sc .int], [.st .tm], true, fun a => f121 a.1⟩]
theorem p73_0 (n : Nat) (lab : Nat → SS → Option (RT.den F73.rs)) (x : PTs.den F73.ps) : F73.body (bodyOf Try.f73) tabR tyR true (cs73 n) lab x = o73_0 n := by kernel_rfl
theorem w73 (n : Nat) (x : PTs.den F73.ps) : F73.body (bodyOf Try.f73) tabR tyR true (cs73 n) (F73.labX (bodyOf Try.f73) tabR tyR true (cs73 n) (F73.labM (bodyOf Try.f73) tabR tyR true (cs73 n) 0) F73.D) x = o73_0 n := by
  show F73.body (bodyOf Try.f73) tabR tyR true (cs73 n) (F73.labX (bodyOf Try.f73) tabR tyR true (cs73 n) (F73.labM (bodyOf Try.f73) tabR tyR true (cs73 n) 0) 2) x = _
  rw [p73_0]
theorem call73 : Callable Try.prog 73 := callable_of Try.func73 (by kernel_rfl) (by kernel_rfl)
theorem ok73 (n : Nat) : Cal.Ok Try.prog ⟨73, F73.ps, F73.rs, F73.fr, fun _ => f73 n⟩ :=
  cal_of_fn F73 (code := bodyOf Try.f73) Try.func73 (by kernel_rfl) (by kernel_rfl) call73 htabR (cs := cs73 n) (fun c hc => by
      simp only [cs73, List.mem_cons, List.not_mem_nil, or_false] at hc
      rcases hc with rfl | rfl | rfl | rfl
      · exact ok67 n
      · exact ok72 n
      · exact ok75 n
      · exact ok121) (fun _ => mixed) (by kernel_rfl) (by kernel_rfl) (by decide) (fun x => ⟨0, w73 n x⟩)
-- tranship/transhiplaw08.RelatedMoved
def o12_0 (n : Nat) (k1 : Int → Tm → Tm → Tm → Tm → Option Bool) (a0 : Tm) (a1 : Tm) (a2 : Tm) (a3 : Tm) (a4 : Int) : Option Bool :=
  (f62 n a0 (250 : Int)).bind fun x1 =>
  if x1 then
    some true
  else
    (f62 n a1 (250 : Int)).bind fun x2 =>
    if x2 then
      some true
    else
      (f62 n a2 (250 : Int)).bind fun x3 =>
      if x3 then
        some true
      else
        (f62 n a3 (250 : Int)).bind fun x4 =>
        if x4 then
          some true
        else
          (f70 n a0).bind fun x5 =>
          if (!x5) then
            some true
          else
            (f70 n a1).bind fun x6 =>
            if (!x6) then
              some true
            else
              (f70 n a2).bind fun x7 =>
              if (!x7) then
                some true
              else
                (f77 n a3).bind fun x8 =>
                if (!x8) then
                  some true
                else
                  if (decide (a4 < (0 : Int))) then
                    some true
                  else
                    if (decide ((1000 : Int) < a4)) then
                      some true
                    else
                      k1 a4 a0 a1 a2 a3
def o12_1 (n : Nat) (k2 : Int → Tm → Tm → Tm → Option Bool) (t4 : Int) (t5 : Tm) (t6 : Tm) (t7 : Tm) (t8 : Tm) : Option Bool :=
  k2 t4 t5 t6 (Tm.mk (12 : Int) t4 (0 : Int) (0 : Int) [(Tm.mk t6.kind t6.i t6.j t6.n t6.kids), (Tm.mk t7.kind t7.i t7.j t7.n t7.kids), (Tm.mk t8.kind t8.i t8.j t8.n t8.kids), (Tm.mk t5.kind t5.i t5.j t5.n t5.kids)])
def o12_2 (n : Nat) (t4 : Int) (t5 : Tm) (t6 : Tm) (t11 : Tm) : Option Bool :=
  (f75 n t11 t5).bind fun x9 =>
  if x9 then
    (f75 n (Tm.mk (11 : Int) t4 (0 : Int) (0 : Int) [(Tm.mk t6.kind t6.i t6.j t6.n t6.kids), (Tm.mk t11.kind t11.i t11.j t11.n t11.kids)]) (Tm.mk (11 : Int) t4 (0 : Int) (0 : Int) [(Tm.mk t6.kind t6.i t6.j t6.n t6.kids), (Tm.mk t5.kind t5.i t5.j t5.n t5.kids)])).bind fun x10 =>
    if x10 then
      (f67 n t11).bind fun x11 =>
      (f67 n t5).bind fun x12 =>
      (f68 n x11 x12).bind fun x13 =>
      if x13 then
        (f73 n).bind fun x14 =>
        some x14
      else
        some false
    else
      some false
  else
    some false
def c12_2 (n : Nat) (t4 : Int) (t5 : Tm) (t6 : Tm) (t11 : Tm) : Option Bool :=
  o12_2 n t4 t5 t6 t11
def c12_1 (n : Nat) (t4 : Int) (t5 : Tm) (t6 : Tm) (t7 : Tm) (t8 : Tm) : Option Bool :=
  o12_1 n (c12_2 n) t4 t5 t6 t7 t8
def f12 (n : Nat) (a0 : Tm) (a1 : Tm) (a2 : Tm) (a3 : Tm) (a4 : Int) : Option Bool := o12_0 n (c12_1 n) a0 a1 a2 a3 a4
def an12 : An := (.n none [] 0 .z (.n (some 1) [(4, .one .c), (5, .ps 0 .tm false), (6, .ps 1 .tm false), (7, .ps 2 .tm false), (8, .ps 3 .tm false)] 4 .z (.n (some 2) [(4, .one .c), (5, .ps 0 .tm false), (6, .ps 1 .tm false), (11, .ps 2 .tm false)] 3 .z .z)))
def F12 : Fn := { f := 12, a := an12, vars := [.tmp 10], ps := [.st .tm, .st .tm, .st .tm, .st .tm, .sc .int], rs := [.sc .bool], own := false, fr := true, nt := 91, D := 4, loops := [] }
def cs12 (n : Nat) : List Cal := [⟨62, [.st .tm, .sc .int], [.sc .bool], true, fun a => f62 n a.1 a.2.1⟩, ⟨67, [.st .tm], [.st .tm], true, fun a => f67 n a.1⟩, ⟨68, [.st .tm, .st .tm], [.sc .bool], true, fun a => f68 n a.1 a.2.1⟩, ⟨70, [.st .tm], [.sc .bool], true, fun a => f70 n a.1⟩, ⟨73, [], [.sc .bool], true, fun a => f73 n⟩, ⟨75, [.st .tm, .st .tm], [.sc .bool], true, fun a => f75 n a.1 a.2.1⟩, ⟨77, [.st .tm], [.sc .bool], true, fun a => f77 n a.1⟩]
def st12_1 (t4 : Int) (t5 : Tm) (t6 : Tm) (t7 : Tm) (t8 : Tm) : SS := ⟨[(4, .v (.one (.c (.int t4) true))), (5, .v (.one (.ptr 0 0))), (6, .v (.one (.ptr 1 0))), (7, .v (.one (.ptr 2 0))), (8, .v (.one (.ptr 3 0)))], [(0, some (.bst .tm t5 false)), (1, some (.bst .tm t6 false)), (2, some (.bst .tm t7 false)), (3, some (.bst .tm t8 false))], 4⟩
def st12_2 (t4 : Int) (t5 : Tm) (t6 : Tm) (t11 : Tm) : SS := ⟨[(4, .v (.one (.c (.int t4) true))), (5, .v (.one (.ptr 0 0))), (6, .v (.one (.ptr 1 0))), (11, .v (.one (.ptr 2 0)))], [(0, some (.bst .tm t5 false)), (1, some (.bst .tm t6 false)), (2, some (.bst .tm t11 false))], 3⟩
theorem p12_0 (n : Nat) (lab : Nat → SS → Option (RT.den F12.rs)) (x : PTs.den F12.ps) : F12.body (bodyOf Try.f12) tabR tyR true (cs12 n) lab x = o12_0 n (fun t4 t5 t6 t7 t8 => lab 1 (st12_1 t4 t5 t6 t7 t8)) x.1 x.2.1 x.2.2.1 x.2.2.2.1 x.2.2.2.2.1 := by kernel_rfl
theorem p12_1 (n : Nat) (lab : Nat → SS → Option (RT.den F12.rs)) (t4 : Int) (t5 : Tm) (t6 : Tm) (t7 : Tm) (t8 : Tm) : F12.at (bodyOf Try.f12) tabR tyR true (cs12 n) lab 1 (st12_1 t4 t5 t6 t7 t8) = o12_1 n (fun t4 t5 t6 t11 => lab 2 (st12_2 t4 t5 t6 t11)) t4 t5 t6 t7 t8 := by kernel_rfl
theorem p12_2 (n : Nat) (lab : Nat → SS → Option (RT.den F12.rs)) (t4 : Int) (t5 : Tm) (t6 : Tm) (t11 : Tm) : F12.at (bodyOf Try.f12) tabR tyR true (cs12 n) lab 2 (st12_2 t4 t5 t6 t11) = o12_2 n t4 t5 t6 t11 := by kernel_rfl
theorem n12_2 (n : Nat) (rec : Nat → SS → Option (RT.den F12.rs)) (d : Nat) (t4 : Int) (t5 : Tm) (t6 : Tm) (t11 : Tm) : F12.labD (bodyOf Try.f12) tabR tyR true (cs12 n) rec (d + 1) 2 (st12_2 t4 t5 t6 t11) = c12_2 n t4 t5 t6 t11 := by
  show F12.labD (bodyOf Try.f12) tabR tyR true (cs12 n) rec (d + 1) 2 _ = _
  rw [Fn.labD_succ, p12_2]
  rfl
theorem n12_1 (n : Nat) (rec : Nat → SS → Option (RT.den F12.rs)) (d : Nat) (t4 : Int) (t5 : Tm) (t6 : Tm) (t7 : Tm) (t8 : Tm) : F12.labD (bodyOf Try.f12) tabR tyR true (cs12 n) rec (d + 2) 1 (st12_1 t4 t5 t6 t7 t8) = c12_1 n t4 t5 t6 t7 t8 := by
  have e2 : ∀ t4 t5 t6 t11, F12.labX (bodyOf Try.f12) tabR tyR true (cs12 n) rec (d + 1) 2 (st12_2 t4 t5 t6 t11) = c12_2 n t4 t5 t6 t11 := fun t4 t5 t6 t11 => (Fn.labX_step _ _ _ _ _ _ _ _ _ _ (by kernel_rfl)).trans (n12_2 n rec d t4 t5 t6 t11)
  show F12.labD (bodyOf Try.f12) tabR tyR true (cs12 n) rec ((d + 1) + 1) 1 _ = _
  rw [Fn.labD_succ, p12_1]
  simp only [e2]
  rfl
theorem w12 (n : Nat) (x : PTs.den F12.ps) : F12.body (bodyOf Try.f12) tabR tyR true (cs12 n) (F12.labX (bodyOf Try.f12) tabR tyR true (cs12 n) (F12.labM (bodyOf Try.f12) tabR tyR true (cs12 n) 0) F12.D) x = o12_0 n (c12_1 n) x.1 x.2.1 x.2.2.1 x.2.2.2.1 x.2.2.2.2.1 := by
  have e1 : ∀ t4 t5 t6 t7 t8, F12.labX (bodyOf Try.f12) tabR tyR true (cs12 n) (F12.labM (bodyOf Try.f12) tabR tyR true (cs12 n) 0) 4 1 (st12_1 t4 t5 t6 t7 t8) = c12_1 n t4 t5 t6 t7 t8 := fun t4 t5 t6 t7 t8 => (Fn.labX_step _ _ _ _ _ _ _ _ _ _ (by kernel_rfl)).trans (n12_1 n (F12.labM (bodyOf Try.f12) tabR tyR true (cs12 n) 0) 2 t4 t5 t6 t7 t8)
  show F12.body (bodyOf Try.f12) tabR tyR true (cs12 n) (F12.labX (bodyOf Try.f12) tabR tyR true (cs12 n) (F12.labM (bodyOf Try.f12) tabR tyR true (cs12 n) 0) 4) x = _
  rw [p12_0]
  simp only [e1]
  try rfl
theorem call12 : Callable Try.prog 12 := callable_of Try.func12 (by kernel_rfl) (by kernel_rfl)
theorem ok12 (n : Nat) : Cal.Ok Try.prog ⟨12, F12.ps, F12.rs, F12.fr, fun a => f12 n a.1 a.2.1 a.2.2.1 a.2.2.2.1 a.2.2.2.2.1⟩ :=
  cal_of_fn F12 (code := bodyOf Try.f12) Try.func12 (by kernel_rfl) (by kernel_rfl) call12 htabR (cs := cs12 n) (fun c hc => by
      simp only [cs12, List.mem_cons, List.not_mem_nil, or_false] at hc
      rcases hc with rfl | rfl | rfl | rfl | rfl | rfl | rfl
      · exact ok62 n
      · exact ok67 n
      · exact ok68 n
      · exact ok70 n
      · exact ok73 n
      · exact ok75 n
      · exact ok77 n) (fun _ => mixed) (by kernel_rfl) (by kernel_rfl) (by decide) (fun x => ⟨0, w12 n x⟩)
end Go.Proofs.Yteaglcbnkephgaa
