/-
  What the statement computes, as a plain function.
-/
import Derived.Test.YteaglcbnkephgaaGenK
import Derived.Test.YteaglcbnkephgaaGenE
set_option linter.unusedSimpArgs false
set_option linter.unusedVariables false
namespace Go.Proofs.Yteaglcbnkephgaa
open Go Go.RowKit
set_option maxRecDepth 100000
-- tranship/transhiplaw05.v
def o133_0 (a0 : Int) : Option Tm :=
  some (Tm.mk (2 : Int) a0 (0 : Int) (0 : Int) ([] : List Tm))
def f133 (a0 : Int) : Option Tm := o133_0 a0
def an133 : An := .z
def F133 : Fn := { f := 133, a := an133, vars := [.cell 2 45], ps := [.sc .int], rs := [.st .tm], own := false, fr := true, nt := 5, D := 2, loops := [] }
def cs133 : List Cal := []
theorem p133_0 (lab : Nat → SS → Option (RT.den F133.rs)) (x : PTs.den F133.ps) : F133.body (bodyOf Try.f133) tabR tyR true cs133 lab x = o133_0 x.1 := by kernel_rfl
theorem w133 (x : PTs.den F133.ps) : F133.body (bodyOf Try.f133) tabR tyR true cs133 (F133.labX (bodyOf Try.f133) tabR tyR true cs133 (F133.labM (bodyOf Try.f133) tabR tyR true cs133 0) F133.D) x = o133_0 x.1 := by
  show F133.body (bodyOf Try.f133) tabR tyR true cs133 (F133.labX (bodyOf Try.f133) tabR tyR true cs133 (F133.labM (bodyOf Try.f133) tabR tyR true cs133 0) 2) x = _
  rw [p133_0]
theorem call133 : Callable Try.prog 133 := callable_of Try.func133 (by kernel_rfl) (by kernel_rfl)
theorem ok133 : Cal.Ok Try.prog ⟨133, F133.ps, F133.rs, F133.fr, fun a => f133 a.1⟩ :=
  cal_of_fn F133 (code := bodyOf Try.f133) Try.func133 (by kernel_rfl) (by kernel_rfl) call133 htabR (cs := cs133) (fun c hc => by simp only [cs133, List.not_mem_nil] at hc) (fun _ => mixed) (by kernel_rfl) (by kernel_rfl) (by decide) (fun x => ⟨0, w133 x⟩)
-- tranship/transhiplaw05.wakes
def o93_0 (n : Nat) : Option Bool :=
  (f133 (0 : Int)).bind fun x1 =>
  (f133 (1 : Int)).bind fun x2 =>
  (f92 n (Tm.mk (14 : Int) (0 : Int) (0 : Int) (0 : Int) [(Tm.mk (1 : Int) (0 : Int) (0 : Int) (0 : Int) ([] : List Tm)), (Tm.mk (15 : Int) (0 : Int) (0 : Int) (0 : Int) [(Tm.mk x1.kind x1.i x1.j x1.n x1.kids), (Tm.mk x2.kind x2.i x2.j x2.n x2.kids)])]) (2 : Int) (0 : Int)).bind fun x3 =>
  (f94 n (Tm.mk (14 : Int) (0 : Int) (0 : Int) (0 : Int) [(Tm.mk (1 : Int) (0 : Int) (0 : Int) (0 : Int) ([] : List Tm)), (Tm.mk (15 : Int) (0 : Int) (0 : Int) (0 : Int) [(Tm.mk x1.kind x1.i x1.j x1.n x1.kids), (Tm.mk x2.kind x2.i x2.j x2.n x2.kids)])]) [(5 : Int)]).bind fun x4 =>
  if (decide ((x3.kids.length : Int) = (2 : Int))) then
    atI x3.kids (1 : Int) fun x5 =>
    if (decide ((x5.kids.length : Int) = (2 : Int))) then
      atI x3.kids (1 : Int) fun x6 =>
      atI x6.kids (1 : Int) fun x7 =>
      if (decide (x7.i = (3 : Int))) then
        atI x3.kids (1 : Int) fun x8 =>
        atI x8.kids (0 : Int) fun x9 =>
        if (decide (x9.i = (0 : Int))) then
          if x4.2 then
            if (decide ((x4.1.kids.length : Int) = (2 : Int))) then
              atI x4.1.kids (1 : Int) fun x10 =>
              if (decide ((x10.kids.length : Int) = (2 : Int))) then
                atI x4.1.kids (1 : Int) fun x11 =>
                atI x11.kids (1 : Int) fun x12 =>
                some (decide (x12.i = (6 : Int)))
              else
                some false
            else
              some false
          else
            some false
        else
          some false
      else
        some false
    else
      some false
  else
    some false
def f93 (n : Nat) : Option Bool := o93_0 n
def an93 : An := .z
def F93 : Fn := { f := 93, a := an93, vars := [.tmp 0], ps := [], rs := [.sc .bool], own := false, fr := true, nt := 84, D := 2, loops := [] }
def cs93 (n : Nat) : List Cal := [⟨92, [.st .tm, .sc .int, .sc .int], [.st .tm], true, fun a => f92 n a.1 a.2.1 a.2.2.1⟩, ⟨94, [.st .tm, .sl .int], [.st .tm, .sc .bool], true, fun a => f94 n a.1 a.2.1⟩, ⟨133, [.sc .int], [.st .tm], true, fun a => f133 a.1⟩]
theorem p93_0 (n : Nat) (lab : Nat → SS → Option (RT.den F93.rs)) (x : PTs.den F93.ps) : F93.body (bodyOf Try.f93) tabR tyR true (cs93 n) lab x = o93_0 n := by kernel_rfl
theorem w93 (n : Nat) (x : PTs.den F93.ps) : F93.body (bodyOf Try.f93) tabR tyR true (cs93 n) (F93.labX (bodyOf Try.f93) tabR tyR true (cs93 n) (F93.labM (bodyOf Try.f93) tabR tyR true (cs93 n) 0) F93.D) x = o93_0 n := by
  show F93.body (bodyOf Try.f93) tabR tyR true (cs93 n) (F93.labX (bodyOf Try.f93) tabR tyR true (cs93 n) (F93.labM (bodyOf Try.f93) tabR tyR true (cs93 n) 0) 2) x = _
  rw [p93_0]
theorem call93 : Callable Try.prog 93 := callable_of Try.func93 (by kernel_rfl) (by kernel_rfl)
theorem ok93 (n : Nat) : Cal.Ok Try.prog ⟨93, F93.ps, F93.rs, F93.fr, fun _ => f93 n⟩ :=
  cal_of_fn F93 (code := bodyOf Try.f93) Try.func93 (by kernel_rfl) (by kernel_rfl) call93 htabR (cs := cs93 n) (fun c hc => by
      simp only [cs93, List.mem_cons, List.not_mem_nil, or_false] at hc
      rcases hc with rfl | rfl | rfl
      · exact ok92 n
      · exact ok94 n
      · exact ok133) (fun _ => mixed) (by kernel_rfl) (by kernel_rfl) (by decide) (fun x => ⟨0, w93 n x⟩)
-- tranship/transhiplaw05.RenameLifts
def o24_0 (n : Nat) (k1 : Int → Int → Tm → Option Bool) (a0 : Tm) (a1 : Int) (a2 : Int) : Option Bool :=
  (f62 n a0 (300 : Int)).bind fun x1 =>
  if x1 then
    some true
  else
    (f81 n a0).bind fun x2 =>
    if (!x2) then
      some true
    else
      if (decide (a1 < (0 : Int))) then
        some true
      else
        if (decide ((1000 : Int) < a1)) then
          some true
        else
          (f82 n a0).bind fun x3 =>
          if (decide (a2 < x3)) then
            some true
          else
            if (decide ((200 : Int) < a2)) then
              some true
            else
              k1 a1 a2 a0
def o24_1 (n : Nat) (k2 : Int → Int → Tm → (List Int) → (List Int) → Int → Option Bool) (t1 : Int) (t2 : Int) (t3 : Tm) : Option Bool :=
  k2 t1 t2 t3 ([] : List Int) ([] : List Int) (0 : Int)
def o24_2 (n : Nat) (k2 : Int → Int → Tm → (List Int) → (List Int) → Int → Option Bool) (t1 : Int) (t2 : Int) (t3 : Tm) (t7 : List Int) (t8 : List Int) (t9 : Int) : Option Bool :=
  if (decide (t9 < t2)) then
    ckI (t9 + t1) <|
    ckB (decide ((t7.length + [(t9 + t1)].length) * 8 ≤ 140737488355328) && decide (t7.length + [(t9 + t1)].length ≤ 9223372036854775807)) <|
    ckB (decide ((t8.length + [t9].length) * 8 ≤ 140737488355328) && decide (t8.length + [t9].length ≤ 9223372036854775807)) <|
    ckI (t9 + (1 : Int)) <|
    k2 t1 t2 t3 (t7 ++ [(t9 + t1)]) (t8 ++ [t9]) (t9 + (1 : Int))
  else
    (f94 n t3 t7).bind fun x4 =>
    (f94 n t3 t8).bind fun x5 =>
    if x4.2 then
      if x5.2 then
        (f92 n t3 t1 (0 : Int)).bind fun x6 =>
        (f68 n x4.1 x6).bind fun x7 =>
        if x7 then
          (f68 n x5.1 t3).bind fun x8 =>
          if x8 then
            (f93 n).bind fun x9 =>
            some x9
          else
            some false
        else
          some false
      else
        some false
    else
      some false
def c24_1 (n : Nat) (k2 : Int → Int → Tm → (List Int) → (List Int) → Int → Option Bool) (t1 : Int) (t2 : Int) (t3 : Tm) : Option Bool :=
  o24_1 n k2 t1 t2 t3
def l24_2 (n : Nat) : Nat → Int → Int → Tm → (List Int) → (List Int) → Int → Option Bool
  | 0, _, _, _, _, _, _ => none
  | m + 1, t1, t2, t3, t7, t8, t9 => o24_2 n (l24_2 n m) t1 t2 t3 t7 t8 t9
def f24 (n : Nat) (a0 : Tm) (a1 : Int) (a2 : Int) : Option Bool := o24_0 n (c24_1 n (l24_2 n n)) a0 a1 a2
def an24 : An := (.n none [] 0 .z (.n (some 1) [(1, .one .c), (2, .one .c), (3, .ps 0 .tm false)] 1 .z (.n none [] 0 .z (.n none [] 0 (.n none [] 0 .z (.n none [] 0 (.n (some 2) [(1, .one .c), (2, .one .c), (3, .ps 0 .tm false), (7, .one (.r 1 3 .int true)), (8, .one (.r 2 3 .int true)), (9, .one .c)] 3 .z .z) .z)) .z))))
def F24 : Fn := { f := 24, a := an24, vars := [.tmp 6], ps := [.st .tm, .sc .int, .sc .int], rs := [.sc .bool], own := false, fr := true, nt := 85, D := 4, loops := [2] }
def cs24 (n : Nat) : List Cal := [⟨62, [.st .tm, .sc .int], [.sc .bool], true, fun a => f62 n a.1 a.2.1⟩, ⟨68, [.st .tm, .st .tm], [.sc .bool], true, fun a => f68 n a.1 a.2.1⟩, ⟨81, [.st .tm], [.sc .bool], true, fun a => f81 n a.1⟩, ⟨82, [.st .tm], [.sc .int], true, fun a => f82 n a.1⟩, ⟨92, [.st .tm, .sc .int, .sc .int], [.st .tm], true, fun a => f92 n a.1 a.2.1 a.2.2.1⟩, ⟨93, [], [.sc .bool], true, fun a => f93 n⟩, ⟨94, [.st .tm, .sl .int], [.st .tm, .sc .bool], true, fun a => f94 n a.1 a.2.1⟩]
def st24_1 (t1 : Int) (t2 : Int) (t3 : Tm) : SS := ⟨[(1, .v (.one (.c (.int t1) true))), (2, .v (.one (.c (.int t2) true))), (3, .v (.one (.ptr 0 0)))], [(0, some (.bst .tm t3 false))], 1⟩
def st24_2 (t1 : Int) (t2 : Int) (t3 : Tm) (t7 : List Int) (t8 : List Int) (t9 : Int) : SS := ⟨[(1, .v (.one (.c (.int t1) true))), (2, .v (.one (.c (.int t2) true))), (3, .v (.one (.ptr 0 0))), (7, .v (.one (.arr 1))), (8, .v (.one (.arr 2))), (9, .v (.one (.c (.int t9) true)))], [(0, some (.bst .tm t3 false)), (1, some (.row 3 .int t7 true)), (2, some (.row 3 .int t8 true))], 3⟩
theorem p24_0 (n : Nat) (lab : Nat → SS → Option (RT.den F24.rs)) (x : PTs.den F24.ps) : F24.body (bodyOf Try.f24) tabR tyR true (cs24 n) lab x = o24_0 n (fun t1 t2 t3 => lab 1 (st24_1 t1 t2 t3)) x.1 x.2.1 x.2.2.1 := by kernel_rfl
theorem p24_1 (n : Nat) (lab : Nat → SS → Option (RT.den F24.rs)) (t1 : Int) (t2 : Int) (t3 : Tm) : F24.at (bodyOf Try.f24) tabR tyR true (cs24 n) lab 1 (st24_1 t1 t2 t3) = o24_1 n (fun t1 t2 t3 t7 t8 t9 => lab 2 (st24_2 t1 t2 t3 t7 t8 t9)) t1 t2 t3 := by kernel_rfl
theorem p24_2 (n : Nat) (lab : Nat → SS → Option (RT.den F24.rs)) (t1 : Int) (t2 : Int) (t3 : Tm) (t7 : List Int) (t8 : List Int) (t9 : Int) : F24.at (bodyOf Try.f24) tabR tyR true (cs24 n) lab 2 (st24_2 t1 t2 t3 t7 t8 t9) = o24_2 n (fun t1 t2 t3 t7 t8 t9 => lab 2 (st24_2 t1 t2 t3 t7 t8 t9)) t1 t2 t3 t7 t8 t9 := by kernel_rfl
theorem n24_1 (n : Nat) (rec : Nat → SS → Option (RT.den F24.rs)) (k2 : Int → Int → Tm → (List Int) → (List Int) → Int → Option Bool) (h2 : ∀ t1 t2 t3 t7 t8 t9, rec 2 (st24_2 t1 t2 t3 t7 t8 t9) = k2 t1 t2 t3 t7 t8 t9) (d : Nat) (t1 : Int) (t2 : Int) (t3 : Tm) : F24.labD (bodyOf Try.f24) tabR tyR true (cs24 n) rec (d + 1) 1 (st24_1 t1 t2 t3) = c24_1 n k2 t1 t2 t3 := by
  have e2 : ∀ t1 t2 t3 t7 t8 t9, F24.labX (bodyOf Try.f24) tabR tyR true (cs24 n) rec d 2 (st24_2 t1 t2 t3 t7 t8 t9) = k2 t1 t2 t3 t7 t8 t9 := fun t1 t2 t3 t7 t8 t9 => (Fn.labX_loop _ _ _ _ _ _ _ _ _ _ (by kernel_rfl)).trans (h2 t1 t2 t3 t7 t8 t9)
  show F24.labD (bodyOf Try.f24) tabR tyR true (cs24 n) rec (d + 1) 1 _ = _
  rw [Fn.labD_succ, p24_1]
  simp only [e2]
  rfl
theorem m24_2 (n : Nat) : ∀ m : Nat, (∀ t1 t2 t3 t7 t8 t9, F24.labM (bodyOf Try.f24) tabR tyR true (cs24 n) m 2 (st24_2 t1 t2 t3 t7 t8 t9) = l24_2 n m t1 t2 t3 t7 t8 t9) := by
  intro m
  induction m with
  | zero => exact fun _ _ _ _ _ _ => rfl
  | succ m ih =>
    intro t1 t2 t3 t7 t8 t9
    have e2 : ∀ t1 t2 t3 t7 t8 t9, F24.labX (bodyOf Try.f24) tabR tyR true (cs24 n) (F24.labM (bodyOf Try.f24) tabR tyR true (cs24 n) m) 3 2 (st24_2 t1 t2 t3 t7 t8 t9) = (l24_2 n m) t1 t2 t3 t7 t8 t9 := fun t1 t2 t3 t7 t8 t9 => (Fn.labX_loop _ _ _ _ _ _ _ _ _ _ (by kernel_rfl)).trans (ih t1 t2 t3 t7 t8 t9)
    rw [Fn.labM_succ]
    show F24.labD (bodyOf Try.f24) tabR tyR true (cs24 n) (F24.labM (bodyOf Try.f24) tabR tyR true (cs24 n) m) (3 + 1) 2 _ = _
    rw [Fn.labD_succ, p24_2]
    simp only [e2]
    rfl
theorem w24 (n : Nat) (x : PTs.den F24.ps) : F24.body (bodyOf Try.f24) tabR tyR true (cs24 n) (F24.labX (bodyOf Try.f24) tabR tyR true (cs24 n) (F24.labM (bodyOf Try.f24) tabR tyR true (cs24 n) n) F24.D) x = o24_0 n (c24_1 n (l24_2 n n)) x.1 x.2.1 x.2.2.1 := by
  have e1 : ∀ t1 t2 t3, F24.labX (bodyOf Try.f24) tabR tyR true (cs24 n) (F24.labM (bodyOf Try.f24) tabR tyR true (cs24 n) n) 4 1 (st24_1 t1 t2 t3) = c24_1 n (l24_2 n n) t1 t2 t3 := fun t1 t2 t3 => (Fn.labX_step _ _ _ _ _ _ _ _ _ _ (by kernel_rfl)).trans (n24_1 n (F24.labM (bodyOf Try.f24) tabR tyR true (cs24 n) n) (l24_2 n n) (m24_2 n n) 3 t1 t2 t3)
  show F24.body (bodyOf Try.f24) tabR tyR true (cs24 n) (F24.labX (bodyOf Try.f24) tabR tyR true (cs24 n) (F24.labM (bodyOf Try.f24) tabR tyR true (cs24 n) n) 4) x = _
  rw [p24_0]
  simp only [e1]
  try rfl
theorem call24 : Callable Try.prog 24 := callable_of Try.func24 (by kernel_rfl) (by kernel_rfl)
theorem ok24 (n : Nat) : Cal.Ok Try.prog ⟨24, F24.ps, F24.rs, F24.fr, fun a => f24 n a.1 a.2.1 a.2.2.1⟩ :=
  cal_of_fn F24 (code := bodyOf Try.f24) Try.func24 (by kernel_rfl) (by kernel_rfl) call24 htabR (cs := cs24 n) (fun c hc => by
      simp only [cs24, List.mem_cons, List.not_mem_nil, or_false] at hc
      rcases hc with rfl | rfl | rfl | rfl | rfl | rfl | rfl
      · exact ok62 n
      · exact ok68 n
      · exact ok81 n
      · exact ok82 n
      · exact ok92 n
      · exact ok93 n
      · exact ok94 n) (fun _ => mixed) (by kernel_rfl) (by kernel_rfl) (by decide) (fun x => ⟨n, w24 n x⟩)
end Go.Proofs.Yteaglcbnkephgaa
