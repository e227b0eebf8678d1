/-
  What the statement computes, as a plain function.
-/
import Derived.Test.YteaglcbnkephgaaGenK
import Derived.Test.YteaglcbnkephgaaGenE
set_option linter.unusedSimpArgs false
set_option linter.unusedVariables false
namespace Go.Proofs.Yteaglcbnkephgaa
open Go Go.RowKit
set_option maxRecDepth 100000
-- tranship/transhiplaw07.v
def o103_0 (a0 : Int) : Option Tm :=
  some (Tm.mk (2 : Int) a0 (0 : Int) (0 : Int) ([] : List Tm))
def f103 (a0 : Int) : Option Tm := o103_0 a0
def an103 : An := .z
def F103 : Fn := { f := 103, a := an103, vars := [.cell 2 45], ps := [.sc .int], rs := [.st .tm], own := false, fr := true, nt := 5, D := 2, loops := [] }
def cs103 : List Cal := []
theorem p103_0 (lab : Nat → SS → Option (RT.den F103.rs)) (x : PTs.den F103.ps) : F103.body (bodyOf Try.f103) tabR tyR true cs103 lab x = o103_0 x.1 := by kernel_rfl
theorem w103 (x : PTs.den F103.ps) : F103.body (bodyOf Try.f103) tabR tyR true cs103 (F103.labX (bodyOf Try.f103) tabR tyR true cs103 (F103.labM (bodyOf Try.f103) tabR tyR true cs103 0) F103.D) x = o103_0 x.1 := by
  show F103.body (bodyOf Try.f103) tabR tyR true cs103 (F103.labX (bodyOf Try.f103) tabR tyR true cs103 (F103.labM (bodyOf Try.f103) tabR tyR true cs103 0) 2) x = _
  rw [p103_0]
theorem call103 : Callable Try.prog 103 := callable_of Try.func103 (by kernel_rfl) (by kernel_rfl)
theorem ok103 : Cal.Ok Try.prog ⟨103, F103.ps, F103.rs, F103.fr, fun a => f103 a.1⟩ :=
  cal_of_fn F103 (code := bodyOf Try.f103) Try.func103 (by kernel_rfl) (by kernel_rfl) call103 htabR (cs := cs103) (fun c hc => by simp only [cs103, List.not_mem_nil] at hc) (fun _ => mixed) (by kernel_rfl) (by kernel_rfl) (by decide) (fun x => ⟨0, w103 x⟩)
-- tranship/transhiplaw07.wakes
def o98_0 (n : Nat) : Option Bool :=
  (f103 (0 : Int)).bind fun x1 =>
  (f103 (1 : Int)).bind fun x2 =>
  (f97 n (Tm.mk (15 : Int) (0 : Int) (0 : Int) (0 : Int) [(Tm.mk x1.kind x1.i x1.j x1.n x1.kids), (Tm.mk x2.kind x2.i x2.j x2.n x2.kids)]) (Tm.mk (1 : Int) (3 : Int) (0 : Int) (0 : Int) ([] : List Tm))).bind fun x3 =>
  if (decide (x3.kind = (15 : Int))) then
    if (decide ((x3.kids.length : Int) = (2 : Int))) then
      atI x3.kids (0 : Int) fun x4 =>
      if (decide (x4.i = (3 : Int))) then
        atI x3.kids (0 : Int) fun x5 =>
        if (decide (x5.kind = (1 : Int))) then
          atI x3.kids (1 : Int) fun x6 =>
          if (decide (x6.kind = (2 : Int))) then
            atI x3.kids (1 : Int) fun x7 =>
            some (decide (x7.i = (0 : Int)))
          else
            some false
        else
          some false
      else
        some false
    else
      some false
  else
    some false
def f98 (n : Nat) : Option Bool := o98_0 n
def an98 : An := .z
def F98 : Fn := { f := 98, a := an98, vars := [.tmp 0], ps := [], rs := [.sc .bool], own := false, fr := true, nt := 49, D := 2, loops := [] }
def cs98 (n : Nat) : List Cal := [⟨97, [.st .tm, .st .tm], [.st .tm], true, fun a => f97 n a.1 a.2.1⟩, ⟨103, [.sc .int], [.st .tm], true, fun a => f103 a.1⟩]
theorem p98_0 (n : Nat) (lab : Nat → SS → Option (RT.den F98.rs)) (x : PTs.den F98.ps) : F98.body (bodyOf Try.f98) tabR tyR true (cs98 n) lab x = o98_0 n := by kernel_rfl
theorem w98 (n : Nat) (x : PTs.den F98.ps) : F98.body (bodyOf Try.f98) tabR tyR true (cs98 n) (F98.labX (bodyOf Try.f98) tabR tyR true (cs98 n) (F98.labM (bodyOf Try.f98) tabR tyR true (cs98 n) 0) F98.D) x = o98_0 n := by
  show F98.body (bodyOf Try.f98) tabR tyR true (cs98 n) (F98.labX (bodyOf Try.f98) tabR tyR true (cs98 n) (F98.labM (bodyOf Try.f98) tabR tyR true (cs98 n) 0) 2) x = _
  rw [p98_0]
theorem call98 : Callable Try.prog 98 := callable_of Try.func98 (by kernel_rfl) (by kernel_rfl)
theorem ok98 (n : Nat) : Cal.Ok Try.prog ⟨98, F98.ps, F98.rs, F98.fr, fun _ => f98 n⟩ :=
  cal_of_fn F98 (code := bodyOf Try.f98) Try.func98 (by kernel_rfl) (by kernel_rfl) call98 htabR (cs := cs98 n) (fun c hc => by
      simp only [cs98, List.mem_cons, List.not_mem_nil, or_false] at hc
      rcases hc with rfl | rfl
      · exact ok97 n
      · exact ok103) (fun _ => mixed) (by kernel_rfl) (by kernel_rfl) (by decide) (fun x => ⟨0, w98 n x⟩)
-- tranship/transhiplaw07.stands
def o99_0 (n : Nat) (k1 : Tm → Tm → Option Bool) (a0 : Tm) (a1 : Tm) : Option Bool :=
  (f62 n a0 (120 : Int)).bind fun x1 =>
  if x1 then
    some false
  else
    (f62 n a1 (120 : Int)).bind fun x2 =>
    if x2 then
      some false
    else
      (f81 n a0).bind fun x3 =>
      if (!x3) then
        some false
      else
        (f81 n a1).bind fun x4 =>
        if (!x4) then
          some false
        else
          (f82 n a0).bind fun x5 =>
          if (decide ((1000 : Int) < x5)) then
            some false
          else
            (f82 n a1).bind fun x6 =>
            if (decide ((1000 : Int) < x6)) then
              some false
            else
              k1 a0 a1
def o99_1 (n : Nat) (t2 : Tm) (t3 : Tm) : Option Bool :=
  if (decide (t2.kind = (1 : Int))) then
    some true
  else
    if (decide (t2.kind = (2 : Int))) then
      some true
    else
      (f77 n t2).bind fun x7 =>
      if x7 then
        some true
      else
        (f70 n t3).bind fun x8 =>
        some x8
def c99_1 (n : Nat) (t2 : Tm) (t3 : Tm) : Option Bool :=
  o99_1 n t2 t3
def f99 (n : Nat) (a0 : Tm) (a1 : Tm) : Option Bool := o99_0 n (c99_1 n) a0 a1
def an99 : An := (.n none [] 0 .z (.n (some 1) [(2, .ps 0 .tm false), (3, .ps 1 .tm false)] 2 .z .z))
def F99 : Fn := { f := 99, a := an99, vars := [.tmp 4], ps := [.st .tm, .st .tm], rs := [.sc .bool], own := false, fr := true, nt := 47, D := 3, loops := [] }
def cs99 (n : Nat) : List Cal := [⟨62, [.st .tm, .sc .int], [.sc .bool], true, fun a => f62 n a.1 a.2.1⟩, ⟨70, [.st .tm], [.sc .bool], true, fun a => f70 n a.1⟩, ⟨77, [.st .tm], [.sc .bool], true, fun a => f77 n a.1⟩, ⟨81, [.st .tm], [.sc .bool], true, fun a => f81 n a.1⟩, ⟨82, [.st .tm], [.sc .int], true, fun a => f82 n a.1⟩]
def st99_1 (t2 : Tm) (t3 : Tm) : SS := ⟨[(2, .v (.one (.ptr 0 0))), (3, .v (.one (.ptr 1 0)))], [(0, some (.bst .tm t2 false)), (1, some (.bst .tm t3 false))], 2⟩
theorem p99_0 (n : Nat) (lab : Nat → SS → Option (RT.den F99.rs)) (x : PTs.den F99.ps) : F99.body (bodyOf Try.f99) tabR tyR true (cs99 n) lab x = o99_0 n (fun t2 t3 => lab 1 (st99_1 t2 t3)) x.1 x.2.1 := by kernel_rfl
theorem p99_1 (n : Nat) (lab : Nat → SS → Option (RT.den F99.rs)) (t2 : Tm) (t3 : Tm) : F99.at (bodyOf Try.f99) tabR tyR true (cs99 n) lab 1 (st99_1 t2 t3) = o99_1 n t2 t3 := by kernel_rfl
theorem n99_1 (n : Nat) (rec : Nat → SS → Option (RT.den F99.rs)) (d : Nat) (t2 : Tm) (t3 : Tm) : F99.labD (bodyOf Try.f99) tabR tyR true (cs99 n) rec (d + 1) 1 (st99_1 t2 t3) = c99_1 n t2 t3 := by
  show F99.labD (bodyOf Try.f99) tabR tyR true (cs99 n) rec (d + 1) 1 _ = _
  rw [Fn.labD_succ, p99_1]
  rfl
theorem w99 (n : Nat) (x : PTs.den F99.ps) : F99.body (bodyOf Try.f99) tabR tyR true (cs99 n) (F99.labX (bodyOf Try.f99) tabR tyR true (cs99 n) (F99.labM (bodyOf Try.f99) tabR tyR true (cs99 n) 0) F99.D) x = o99_0 n (c99_1 n) x.1 x.2.1 := by
  have e1 : ∀ t2 t3, F99.labX (bodyOf Try.f99) tabR tyR true (cs99 n) (F99.labM (bodyOf Try.f99) tabR tyR true (cs99 n) 0) 3 1 (st99_1 t2 t3) = c99_1 n t2 t3 := fun t2 t3 => (Fn.labX_step _ _ _ _ _ _ _ _ _ _ (by kernel_rfl)).trans (n99_1 n (F99.labM (bodyOf Try.f99) tabR tyR true (cs99 n) 0) 2 t2 t3)
  show F99.body (bodyOf Try.f99) tabR tyR true (cs99 n) (F99.labX (bodyOf Try.f99) tabR tyR true (cs99 n) (F99.labM (bodyOf Try.f99) tabR tyR true (cs99 n) 0) 3) x = _
  rw [p99_0]
  simp only [e1]
  try rfl
theorem call99 : Callable Try.prog 99 := callable_of Try.func99 (by kernel_rfl) (by kernel_rfl)
theorem ok99 (n : Nat) : Cal.Ok Try.prog ⟨99, F99.ps, F99.rs, F99.fr, fun a => f99 n a.1 a.2.1⟩ :=
  cal_of_fn F99 (code := bodyOf Try.f99) Try.func99 (by kernel_rfl) (by kernel_rfl) call99 htabR (cs := cs99 n) (fun c hc => by
      simp only [cs99, List.mem_cons, List.not_mem_nil, or_false] at hc
      rcases hc with rfl | rfl | rfl | rfl | rfl
      · exact ok62 n
      · exact ok70 n
      · exact ok77 n
      · exact ok81 n
      · exact ok82 n) (fun _ => mixed) (by kernel_rfl) (by kernel_rfl) (by decide) (fun x => ⟨0, w99 n x⟩)
-- tranship/transhiplaw07.stands2
def o104_0 (n : Nat) (a0 : Tm) (a1 : Tm) : Option Bool :=
  (f62 n a0 (2000 : Int)).bind fun x1 =>
  if (!x1) then
    if (decide (a0.kind = (1 : Int))) then
      (f81 n a0).bind fun x2 =>
      some x2
    else
      if (decide (a0.kind = (2 : Int))) then
        (f81 n a0).bind fun x3 =>
        some x3
      else
        (f77 n a0).bind fun x4 =>
        if x4 then
          (f81 n a0).bind fun x5 =>
          some x5
        else
          (f70 n a1).bind fun x6 =>
          if x6 then
            (f81 n a0).bind fun x7 =>
            some x7
          else
            some false
  else
    some false
def f104 (n : Nat) (a0 : Tm) (a1 : Tm) : Option Bool := o104_0 n a0 a1
def an104 : An := .z
def F104 : Fn := { f := 104, a := an104, vars := [.tmp 4], ps := [.st .tm, .st .tm], rs := [.sc .bool], own := false, fr := true, nt := 30, D := 2, loops := [] }
def cs104 (n : Nat) : List Cal := [⟨62, [.st .tm, .sc .int], [.sc .bool], true, fun a => f62 n a.1 a.2.1⟩, ⟨70, [.st .tm], [.sc .bool], true, fun a => f70 n a.1⟩, ⟨77, [.st .tm], [.sc .bool], true, fun a => f77 n a.1⟩, ⟨81, [.st .tm], [.sc .bool], true, fun a => f81 n a.1⟩]
theorem p104_0 (n : Nat) (lab : Nat → SS → Option (RT.den F104.rs)) (x : PTs.den F104.ps) : F104.body (bodyOf Try.f104) tabR tyR true (cs104 n) lab x = o104_0 n x.1 x.2.1 := by kernel_rfl
theorem w104 (n : Nat) (x : PTs.den F104.ps) : F104.body (bodyOf Try.f104) tabR tyR true (cs104 n) (F104.labX (bodyOf Try.f104) tabR tyR true (cs104 n) (F104.labM (bodyOf Try.f104) tabR tyR true (cs104 n) 0) F104.D) x = o104_0 n x.1 x.2.1 := by
  show F104.body (bodyOf Try.f104) tabR tyR true (cs104 n) (F104.labX (bodyOf Try.f104) tabR tyR true (cs104 n) (F104.labM (bodyOf Try.f104) tabR tyR true (cs104 n) 0) 2) x = _
  rw [p104_0]
theorem call104 : Callable Try.prog 104 := callable_of Try.func104 (by kernel_rfl) (by kernel_rfl)
theorem ok104 (n : Nat) : Cal.Ok Try.prog ⟨104, F104.ps, F104.rs, F104.fr, fun a => f104 n a.1 a.2.1⟩ :=
  cal_of_fn F104 (code := bodyOf Try.f104) Try.func104 (by kernel_rfl) (by kernel_rfl) call104 htabR (cs := cs104 n) (fun c hc => by
      simp only [cs104, List.mem_cons, List.not_mem_nil, or_false] at hc
      rcases hc with rfl | rfl | rfl | rfl
      · exact ok62 n
      · exact ok70 n
      · exact ok77 n
      · exact ok81 n) (fun _ => mixed) (by kernel_rfl) (by kernel_rfl) (by decide) (fun x => ⟨0, w104 n x⟩)
-- tranship/transhiplaw07.PutTwice
def o31_0 (n : Nat) (k1 : Tm → Tm → Tm → Option Bool) (a0 : Tm) (a1 : Tm) (a2 : Tm) : Option Bool :=
  (f99 n a0 a1).bind fun x1 =>
  if (!x1) then
    some true
  else
    (f99 n a0 a2).bind fun x2 =>
    if (!x2) then
      some true
    else
      (f99 n a1 a2).bind fun x3 =>
      if (!x3) then
        some true
      else
        (f82 n a0).bind fun x4 =>
        if (decide ((100 : Int) < x4)) then
          some true
        else
          k1 a0 a1 a2
def o31_1 (n : Nat) (k2 : Tm → Tm → Tm → (List Tm) → Int → Option Bool) (t3 : Tm) (t4 : Tm) (t5 : Tm) : Option Bool :=
  (f97 n t3 t4).bind fun x5 =>
  (f104 n x5 t5).bind fun x6 =>
  if (!x6) then
    (f98 n).bind fun x7 =>
    some x7
  else
    (f97 n t4 t5).bind fun x8 =>
    k2 t3 t5 x5 [(Tm.mk x8.kind x8.i x8.j x8.n x8.kids), (Tm.mk t5.kind t5.i t5.j t5.n t5.kids)] (0 : Int)
def o31_2 (n : Nat) (k2 : Tm → Tm → Tm → (List Tm) → Int → Option Bool) (t3 : Tm) (t5 : Tm) (t7 : Tm) (t8 : List Tm) (t9 : Int) : Option Bool :=
  if (decide (t9 < (100 : Int))) then
    (f103 t9).bind fun x9 =>
    ckB (decide ((t8.length + [(Tm.mk x9.kind x9.i x9.j x9.n x9.kids)].length) * 56 ≤ 140737488355328) && decide (t8.length + [(Tm.mk x9.kind x9.i x9.j x9.n x9.kids)].length ≤ 9223372036854775807)) <|
    ckI (t9 + (1 : Int)) <|
    k2 t3 t5 t7 (t8 ++ [(Tm.mk x9.kind x9.i x9.j x9.n x9.kids)]) (t9 + (1 : Int))
  else
    (f101 n t3 t8).bind fun x10 =>
    if x10.2 then
      (f97 n t7 t5).bind fun x11 =>
      (f68 n x11 x10.1).bind fun x12 =>
      if x12 then
        (f98 n).bind fun x13 =>
        some x13
      else
        some false
    else
      some false
def c31_1 (n : Nat) (k2 : Tm → Tm → Tm → (List Tm) → Int → Option Bool) (t3 : Tm) (t4 : Tm) (t5 : Tm) : Option Bool :=
  o31_1 n k2 t3 t4 t5
def l31_2 (n : Nat) : Nat → Tm → Tm → Tm → (List Tm) → Int → Option Bool
  | 0, _, _, _, _, _ => none
  | m + 1, t3, t5, t7, t8, t9 => o31_2 n (l31_2 n m) t3 t5 t7 t8 t9
def f31 (n : Nat) (a0 : Tm) (a1 : Tm) (a2 : Tm) : Option Bool := o31_0 n (c31_1 n (l31_2 n n)) a0 a1 a2
def an31 : An := (.n none [] 0 .z (.n (some 1) [(3, .ps 0 .tm false), (4, .ps 1 .tm false), (5, .ps 2 .tm false)] 3 .z (.n none [] 0 .z (.n none [] 0 .z (.n none [] 0 .z (.n none [] 0 (.n none [] 0 .z (.n none [] 0 (.n (some 2) [(3, .ps 0 .tm false), (5, .ps 1 .tm false), (7, .ps 2 .tm true), (8, .one (.r 3 45 .tm false)), (9, .one .c)] 4 .z .z) .z)) .z))))))
def F31 : Fn := { f := 31, a := an31, vars := [.tmp 6], ps := [.st .tm, .st .tm, .st .tm], rs := [.sc .bool], own := false, fr := true, nt := 72, D := 4, loops := [2] }
def cs31 (n : Nat) : List Cal := [⟨68, [.st .tm, .st .tm], [.sc .bool], true, fun a => f68 n a.1 a.2.1⟩, ⟨82, [.st .tm], [.sc .int], true, fun a => f82 n a.1⟩, ⟨97, [.st .tm, .st .tm], [.st .tm], true, fun a => f97 n a.1 a.2.1⟩, ⟨98, [], [.sc .bool], true, fun a => f98 n⟩, ⟨99, [.st .tm, .st .tm], [.sc .bool], true, fun a => f99 n a.1 a.2.1⟩, ⟨101, [.st .tm, .sl .tm], [.st .tm, .sc .bool], true, fun a => f101 n a.1 a.2.1⟩, ⟨103, [.sc .int], [.st .tm], true, fun a => f103 a.1⟩, ⟨104, [.st .tm, .st .tm], [.sc .bool], true, fun a => f104 n a.1 a.2.1⟩]
def st31_1 (t3 : Tm) (t4 : Tm) (t5 : Tm) : SS := ⟨[(3, .v (.one (.ptr 0 0))), (4, .v (.one (.ptr 1 0))), (5, .v (.one (.ptr 2 0)))], [(0, some (.bst .tm t3 false)), (1, some (.bst .tm t4 false)), (2, some (.bst .tm t5 false))], 3⟩
def st31_2 (t3 : Tm) (t5 : Tm) (t7 : Tm) (t8 : List Tm) (t9 : Int) : SS := ⟨[(3, .v (.one (.ptr 0 0))), (5, .v (.one (.ptr 1 0))), (7, .v (.one (.ptr 2 0))), (8, .v (.one (.arr 3))), (9, .v (.one (.c (.int t9) true)))], [(0, some (.bst .tm t3 false)), (1, some (.bst .tm t5 false)), (2, some (.bst .tm t7 true)), (3, some (.row 45 .tm t8 false))], 4⟩
theorem p31_0 (n : Nat) (lab : Nat → SS → Option (RT.den F31.rs)) (x : PTs.den F31.ps) : F31.body (bodyOf Try.f31) tabR tyR true (cs31 n) lab x = o31_0 n (fun t3 t4 t5 => lab 1 (st31_1 t3 t4 t5)) x.1 x.2.1 x.2.2.1 := by kernel_rfl
theorem p31_1 (n : Nat) (lab : Nat → SS → Option (RT.den F31.rs)) (t3 : Tm) (t4 : Tm) (t5 : Tm) : F31.at (bodyOf Try.f31) tabR tyR true (cs31 n) lab 1 (st31_1 t3 t4 t5) = o31_1 n (fun t3 t5 t7 t8 t9 => lab 2 (st31_2 t3 t5 t7 t8 t9)) t3 t4 t5 := by kernel_rfl
theorem p31_2 (n : Nat) (lab : Nat → SS → Option (RT.den F31.rs)) (t3 : Tm) (t5 : Tm) (t7 : Tm) (t8 : List Tm) (t9 : Int) : F31.at (bodyOf Try.f31) tabR tyR true (cs31 n) lab 2 (st31_2 t3 t5 t7 t8 t9) = o31_2 n (fun t3 t5 t7 t8 t9 => lab 2 (st31_2 t3 t5 t7 t8 t9)) t3 t5 t7 t8 t9 := by kernel_rfl
theorem n31_1 (n : Nat) (rec : Nat → SS → Option (RT.den F31.rs)) (k2 : Tm → Tm → Tm → (List Tm) → Int → Option Bool) (h2 : ∀ t3 t5 t7 t8 t9, rec 2 (st31_2 t3 t5 t7 t8 t9) = k2 t3 t5 t7 t8 t9) (d : Nat) (t3 : Tm) (t4 : Tm) (t5 : Tm) : F31.labD (bodyOf Try.f31) tabR tyR true (cs31 n) rec (d + 1) 1 (st31_1 t3 t4 t5) = c31_1 n k2 t3 t4 t5 := by
  have e2 : ∀ t3 t5 t7 t8 t9, F31.labX (bodyOf Try.f31) tabR tyR true (cs31 n) rec d 2 (st31_2 t3 t5 t7 t8 t9) = k2 t3 t5 t7 t8 t9 := fun t3 t5 t7 t8 t9 => (Fn.labX_loop _ _ _ _ _ _ _ _ _ _ (by kernel_rfl)).trans (h2 t3 t5 t7 t8 t9)
  show F31.labD (bodyOf Try.f31) tabR tyR true (cs31 n) rec (d + 1) 1 _ = _
  rw [Fn.labD_succ, p31_1]
  simp only [e2]
  rfl
theorem m31_2 (n : Nat) : ∀ m : Nat, (∀ t3 t5 t7 t8 t9, F31.labM (bodyOf Try.f31) tabR tyR true (cs31 n) m 2 (st31_2 t3 t5 t7 t8 t9) = l31_2 n m t3 t5 t7 t8 t9) := by
  intro m
  induction m with
  | zero => exact fun _ _ _ _ _ => rfl
  | succ m ih =>
    intro t3 t5 t7 t8 t9
    have e2 : ∀ t3 t5 t7 t8 t9, F31.labX (bodyOf Try.f31) tabR tyR true (cs31 n) (F31.labM (bodyOf Try.f31) tabR tyR true (cs31 n) m) 3 2 (st31_2 t3 t5 t7 t8 t9) = (l31_2 n m) t3 t5 t7 t8 t9 := fun t3 t5 t7 t8 t9 => (Fn.labX_loop _ _ _ _ _ _ _ _ _ _ (by kernel_rfl)).trans (ih t3 t5 t7 t8 t9)
    rw [Fn.labM_succ]
    show F31.labD (bodyOf Try.f31) tabR tyR true (cs31 n) (F31.labM (bodyOf Try.f31) tabR tyR true (cs31 n) m) (3 + 1) 2 _ = _
    rw [Fn.labD_succ, p31_2]
    simp only [e2]
    rfl
theorem w31 (n : Nat) (x : PTs.den F31.ps) : F31.body (bodyOf Try.f31) tabR tyR true (cs31 n) (F31.labX (bodyOf Try.f31) tabR tyR true (cs31 n) (F31.labM (bodyOf Try.f31) tabR tyR true (cs31 n) n) F31.D) x = o31_0 n (c31_1 n (l31_2 n n)) x.1 x.2.1 x.2.2.1 := by
  have e1 : ∀ t3 t4 t5, F31.labX (bodyOf Try.f31) tabR tyR true (cs31 n) (F31.labM (bodyOf Try.f31) tabR tyR true (cs31 n) n) 4 1 (st31_1 t3 t4 t5) = c31_1 n (l31_2 n n) t3 t4 t5 := fun t3 t4 t5 => (Fn.labX_step _ _ _ _ _ _ _ _ _ _ (by kernel_rfl)).trans (n31_1 n (F31.labM (bodyOf Try.f31) tabR tyR true (cs31 n) n) (l31_2 n n) (m31_2 n n) 3 t3 t4 t5)
  show F31.body (bodyOf Try.f31) tabR tyR true (cs31 n) (F31.labX (bodyOf Try.f31) tabR tyR true (cs31 n) (F31.labM (bodyOf Try.f31) tabR tyR true (cs31 n) n) 4) x = _
  rw [p31_0]
  simp only [e1]
  try rfl
theorem call31 : Callable Try.prog 31 := callable_of Try.func31 (by kernel_rfl) (by kernel_rfl)
theorem ok31 (n : Nat) : Cal.Ok Try.prog ⟨31, F31.ps, F31.rs, F31.fr, fun a => f31 n a.1 a.2.1 a.2.2.1⟩ :=
  cal_of_fn F31 (code := bodyOf Try.f31) Try.func31 (by kernel_rfl) (by kernel_rfl) call31 htabR (cs := cs31 n) (fun c hc => by
      simp only [cs31, List.mem_cons, List.not_mem_nil, or_false] at hc
      rcases hc with rfl | rfl | rfl | rfl | rfl | rfl | rfl | rfl
      · exact ok68 n
      · exact ok82 n
      · exact ok97 n
      · exact ok98 n
      · exact ok99 n
      · exact ok101 n
      · exact ok103
      · exact ok104 n) (fun _ => mixed) (by kernel_rfl) (by kernel_rfl) (by decide) (fun x => ⟨n, w31 n x⟩)
end Go.Proofs.Yteaglcbnkephgaa
