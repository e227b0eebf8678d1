/-
  What the statement computes, as a plain function.
-/
import Derived.Test.YteaglcbnkephgaaGenD
set_option linter.unusedSimpArgs false
set_option linter.unusedVariables false
namespace Go.Proofs.Yteaglcbnkephgaa
open Go Go.RowKit
set_option maxRecDepth 100000
-- tranship/transhiplaw12.wakes
def o44_0 (n : Nat) : Option Bool :=
  (f35 n (Dv.mk (11 : Int) (0 : Int) [(Dv.mk (1 : Int) (3 : Int) ([] : List Dv))]) [(0 : Int)]).bind fun x1 =>
  (f46 (7 : Int)).bind fun x2 =>
  if (decide (x2 = (3 : Int))) then
    (f48 (7 : Int) (1 : Int)).bind fun x3 =>
    if x3 then
      (f45 (28 : Int)).bind fun x4 =>
      if (x4.toList == (⟨#[120, 112, 97, 105, 114]⟩ : ByteArray).toList) then
        (f53 n (⟨#[99, 111, 110, 118, 115]⟩ : ByteArray)).bind fun x5 =>
        if (decide (x5 = (16 : Int))) then
          (f37 n (Dv.mk (11 : Int) (0 : Int) [(Dv.mk (1 : Int) (3 : Int) ([] : List Dv))])).bind fun x6 =>
          if x6 then
            (f39 n (Dv.mk (11 : Int) (0 : Int) [(Dv.mk (1 : Int) (3 : Int) ([] : List Dv))])).bind fun x7 =>
            if (decide (x7 = (2 : Int))) then
              (f41 n (Dv.mk (11 : Int) (0 : Int) [(Dv.mk (1 : Int) (3 : Int) ([] : List Dv))])).bind fun x8 =>
              if (decide (x8 = (2 : Int))) then
                if x1.2 then
                  some (decide (x1.1.i = (3 : Int)))
                else
                  some false
              else
                some false
            else
              some false
          else
            some false
        else
          some false
      else
        some false
    else
      some false
  else
    some false
def f44 (n : Nat) : Option Bool := o44_0 n
def an44 : An := .z
def F44 : Fn := { f := 44, a := an44, vars := [.tmp 0], ps := [], rs := [.sc .bool], own := false, fr := true, nt := 48, D := 2, loops := [] }
def cs44 (n : Nat) : List Cal := [⟨35, [.st .dv, .sl .int], [.st .dv, .sc .bool], true, fun a => f35 n a.1 a.2.1⟩, ⟨37, [.st .dv], [.sc .bool], true, fun a => f37 n a.1⟩, ⟨39, [.st .dv], [.sc .int], true, fun a => f39 n a.1⟩, ⟨41, [.st .dv], [.sc .int], true, fun a => f41 n a.1⟩, ⟨45, [.sc .int], [.sc .str], true, fun a => f45 a.1⟩, ⟨46, [.sc .int], [.sc .int], true, fun a => f46 a.1⟩, ⟨48, [.sc .int, .sc .int], [.sc .bool], true, fun a => f48 a.1 a.2.1⟩, ⟨53, [.sc .str], [.sc .int], true, fun a => f53 n a.1⟩]
theorem p44_0 (n : Nat) (lab : Nat → SS → Option (RT.den F44.rs)) (x : PTs.den F44.ps) : F44.body (bodyOf Try.f44) tabR tyR true (cs44 n) lab x = o44_0 n := by kernel_rfl
theorem w44 (n : Nat) (x : PTs.den F44.ps) : F44.body (bodyOf Try.f44) tabR tyR true (cs44 n) (F44.labX (bodyOf Try.f44) tabR tyR true (cs44 n) (F44.labM (bodyOf Try.f44) tabR tyR true (cs44 n) 0) F44.D) x = o44_0 n := by
  show F44.body (bodyOf Try.f44) tabR tyR true (cs44 n) (F44.labX (bodyOf Try.f44) tabR tyR true (cs44 n) (F44.labM (bodyOf Try.f44) tabR tyR true (cs44 n) 0) 2) x = _
  rw [p44_0]
theorem call44 : Callable Try.prog 44 := callable_of Try.func44 (by kernel_rfl) (by kernel_rfl)
theorem ok44 (n : Nat) : Cal.Ok Try.prog ⟨44, F44.ps, F44.rs, F44.fr, fun _ => f44 n⟩ :=
  cal_of_fn F44 (code := bodyOf Try.f44) Try.func44 (by kernel_rfl) (by kernel_rfl) call44 htabR (cs := cs44 n) (fun c hc => by
      simp only [cs44, List.mem_cons, List.not_mem_nil, or_false] at hc
      rcases hc with rfl | rfl | rfl | rfl | rfl | rfl | rfl | rfl
      · exact ok35 n
      · exact ok37 n
      · exact ok39 n
      · exact ok41 n
      · exact ok45
      · exact ok46
      · exact ok48
      · exact ok53 n) (fun _ => mixed) (by kernel_rfl) (by kernel_rfl) (by decide) (fun x => ⟨0, w44 n x⟩)
-- tranship/transhiplaw12.DerivPaths
def o4_0 (n : Nat) (k1 : (List Int) → Dv → Option Bool) (a0 : Dv) (a1 : List Int) : Option Bool :=
  (f34 n a0 (600 : Int)).bind fun x1 =>
  if x1 then
    some true
  else
    if (decide ((200 : Int) < (a1.length : Int))) then
      some true
    else
      k1 a1 a0
def o4_1 (n : Nat) (k2 : (List Int) → Dv → Dv → Option Bool) (t1 : List Int) (t2 : Dv) : Option Bool :=
  (f35 n t2 t1).bind fun x2 =>
  if (!x2.2) then
    if (decide (x2.1.rule = (0 : Int))) then
      if (decide (x2.1.i = (0 : Int))) then
        if (decide ((x2.1.kids.length : Int) = (0 : Int))) then
          (f44 n).bind fun x3 =>
          some x3
        else
          some false
      else
        some false
    else
      some false
  else
    (f37 n t2).bind fun x4 =>
    if x4 then
      (f37 n x2.1).bind fun x5 =>
      if (!x5) then
        some false
      else
        (f39 n x2.1).bind fun x6 =>
        (f39 n t2).bind fun x7 =>
        if (decide (x7 < x6)) then
          some false
        else
          (f41 n x2.1).bind fun x8 =>
          ckI (x8 + (t1.length : Int)) <|
          (f41 n t2).bind fun x9 =>
          if (decide (x9 < (x8 + (t1.length : Int)))) then
            some false
          else
            k2 t1 t2 x2.1
    else
      (f39 n x2.1).bind fun x10 =>
      (f39 n t2).bind fun x11 =>
      if (decide (x11 < x10)) then
        some false
      else
        (f41 n x2.1).bind fun x12 =>
        ckI (x12 + (t1.length : Int)) <|
        (f41 n t2).bind fun x13 =>
        if (decide (x13 < (x12 + (t1.length : Int)))) then
          some false
        else
          k2 t1 t2 x2.1
def o4_2 (n : Nat) (k3 : (List Int) → Dv → Dv → Int → Option Bool) (t1 : List Int) (t2 : Dv) (t5 : Dv) : Option Bool :=
  k3 t1 t2 t5 (-1 : Int)
def o4_3 (n : Nat) (k3 : (List Int) → Dv → Dv → Int → Option Bool) (t1 : List Int) (t2 : Dv) (t5 : Dv) (t7 : Int) : Option Bool :=
  if (decide (t7 ≤ (t5.kids.length : Int))) then
    ckB (decide ((([] : List Int).length + t1.length) * 8 ≤ 140737488355328) && decide (([] : List Int).length + t1.length ≤ 9223372036854775807)) <|
    ckB (decide (((([] : List Int) ++ t1).length + [t7].length) * 8 ≤ 140737488355328) && decide ((([] : List Int) ++ t1).length + [t7].length ≤ 9223372036854775807)) <|
    (f35 n t2 ((([] : List Int) ++ t1) ++ [t7])).bind fun x14 =>
    if (decide ((0 : Int) ≤ t7)) then
      if (!(x14.2 == (decide (t7 < (t5.kids.length : Int))))) then
        some false
      else
        if x14.2 then
          atI t5.kids t7 fun x15 =>
          (f43 n x14.1 x15).bind fun x16 =>
          if (!x16) then
            some false
          else
            ckI (t7 + (1 : Int)) <|
            k3 t1 t2 t5 (t7 + (1 : Int))
        else
          ckI (t7 + (1 : Int)) <|
          k3 t1 t2 t5 (t7 + (1 : Int))
    else
      if (!(x14.2 == false)) then
        some false
      else
        if x14.2 then
          atI t5.kids t7 fun x17 =>
          (f43 n x14.1 x17).bind fun x18 =>
          if (!x18) then
            some false
          else
            ckI (t7 + (1 : Int)) <|
            k3 t1 t2 t5 (t7 + (1 : Int))
        else
          ckI (t7 + (1 : Int)) <|
          k3 t1 t2 t5 (t7 + (1 : Int))
  else
    (f44 n).bind fun x19 =>
    some x19
def c4_2 (n : Nat) (k3 : (List Int) → Dv → Dv → Int → Option Bool) (t1 : List Int) (t2 : Dv) (t5 : Dv) : Option Bool :=
  o4_2 n k3 t1 t2 t5
def c4_1 (n : Nat) (k3 : (List Int) → Dv → Dv → Int → Option Bool) (t1 : List Int) (t2 : Dv) : Option Bool :=
  o4_1 n (c4_2 n k3) t1 t2
def l4_3 (n : Nat) : Nat → (List Int) → Dv → Dv → Int → Option Bool
  | 0, _, _, _, _ => none
  | m + 1, t1, t2, t5, t7 => o4_3 n (l4_3 n m) t1 t2 t5 t7
def f4 (n : Nat) (a0 : Dv) (a1 : List Int) : Option Bool := o4_0 n (c4_1 n (l4_3 n n)) a0 a1
def an4 : An := (.n none [] 0 .z (.n (some 1) [(1, .one (.d .int false)), (2, .ps 0 .dv false)] 1 .z (.n none [] 0 .z (.n none [] 0 .z (.n (some 2) [(1, .one (.d .int false)), (2, .ps 0 .dv false), (5, .ps 1 .dv true)] 2 .z (.n none [] 0 (.n none [] 0 .z (.n none [] 0 (.n (some 3) [(1, .one (.d .int false)), (2, .ps 0 .dv false), (5, .ps 1 .dv true), (7, .one .c)] 2 .z .z) .z)) .z))))))
def F4 : Fn := { f := 4, a := an4, vars := [.tmp 4], ps := [.st .dv, .sl .int], rs := [.sc .bool], own := false, fr := true, nt := 109, D := 5, loops := [3] }
def cs4 (n : Nat) : List Cal := [⟨34, [.st .dv, .sc .int], [.sc .bool], true, fun a => f34 n a.1 a.2.1⟩, ⟨35, [.st .dv, .sl .int], [.st .dv, .sc .bool], true, fun a => f35 n a.1 a.2.1⟩, ⟨37, [.st .dv], [.sc .bool], true, fun a => f37 n a.1⟩, ⟨39, [.st .dv], [.sc .int], true, fun a => f39 n a.1⟩, ⟨41, [.st .dv], [.sc .int], true, fun a => f41 n a.1⟩, ⟨43, [.st .dv, .st .dv], [.sc .bool], true, fun a => f43 n a.1 a.2.1⟩, ⟨44, [], [.sc .bool], true, fun a => f44 n⟩]
def st4_1 (t1 : List Int) (t2 : Dv) : SS := ⟨[(1, .v (.one (.c (.sl .int t1) false))), (2, .v (.one (.ptr 0 0)))], [(0, some (.bst .dv t2 false))], 1⟩
def st4_2 (t1 : List Int) (t2 : Dv) (t5 : Dv) : SS := ⟨[(1, .v (.one (.c (.sl .int t1) false))), (2, .v (.one (.ptr 0 0))), (5, .v (.one (.ptr 1 0)))], [(0, some (.bst .dv t2 false)), (1, some (.bst .dv t5 true))], 2⟩
def st4_3 (t1 : List Int) (t2 : Dv) (t5 : Dv) (t7 : Int) : SS := ⟨[(1, .v (.one (.c (.sl .int t1) false))), (2, .v (.one (.ptr 0 0))), (5, .v (.one (.ptr 1 0))), (7, .v (.one (.c (.int t7) true)))], [(0, some (.bst .dv t2 false)), (1, some (.bst .dv t5 true))], 2⟩
theorem p4_0 (n : Nat) (lab : Nat → SS → Option (RT.den F4.rs)) (x : PTs.den F4.ps) : F4.body (bodyOf Try.f4) tabR tyR true (cs4 n) lab x = o4_0 n (fun t1 t2 => lab 1 (st4_1 t1 t2)) x.1 x.2.1 := by kernel_rfl
theorem p4_1 (n : Nat) (lab : Nat → SS → Option (RT.den F4.rs)) (t1 : List Int) (t2 : Dv) : F4.at (bodyOf Try.f4) tabR tyR true (cs4 n) lab 1 (st4_1 t1 t2) = o4_1 n (fun t1 t2 t5 => lab 2 (st4_2 t1 t2 t5)) t1 t2 := by kernel_rfl
theorem p4_2 (n : Nat) (lab : Nat → SS → Option (RT.den F4.rs)) (t1 : List Int) (t2 : Dv) (t5 : Dv) : F4.at (bodyOf Try.f4) tabR tyR true (cs4 n) lab 2 (st4_2 t1 t2 t5) = o4_2 n (fun t1 t2 t5 t7 => lab 3 (st4_3 t1 t2 t5 t7)) t1 t2 t5 := by kernel_rfl
theorem p4_3 (n : Nat) (lab : Nat → SS → Option (RT.den F4.rs)) (t1 : List Int) (t2 : Dv) (t5 : Dv) (t7 : Int) : F4.at (bodyOf Try.f4) tabR tyR true (cs4 n) lab 3 (st4_3 t1 t2 t5 t7) = o4_3 n (fun t1 t2 t5 t7 => lab 3 (st4_3 t1 t2 t5 t7)) t1 t2 t5 t7 := by kernel_rfl
theorem n4_2 (n : Nat) (rec : Nat → SS → Option (RT.den F4.rs)) (k3 : (List Int) → Dv → Dv → Int → Option Bool) (h3 : ∀ t1 t2 t5 t7, rec 3 (st4_3 t1 t2 t5 t7) = k3 t1 t2 t5 t7) (d : Nat) (t1 : List Int) (t2 : Dv) (t5 : Dv) : F4.labD (bodyOf Try.f4) tabR tyR true (cs4 n) rec (d + 1) 2 (st4_2 t1 t2 t5) = c4_2 n k3 t1 t2 t5 := by
  have e3 : ∀ t1 t2 t5 t7, F4.labX (bodyOf Try.f4) tabR tyR true (cs4 n) rec d 3 (st4_3 t1 t2 t5 t7) = k3 t1 t2 t5 t7 := fun t1 t2 t5 t7 => (Fn.labX_loop _ _ _ _ _ _ _ _ _ _ (by kernel_rfl)).trans (h3 t1 t2 t5 t7)
  show F4.labD (bodyOf Try.f4) tabR tyR true (cs4 n) rec (d + 1) 2 _ = _
  rw [Fn.labD_succ, p4_2]
  simp only [e3]
  rfl
theorem n4_1 (n : Nat) (rec : Nat → SS → Option (RT.den F4.rs)) (k3 : (List Int) → Dv → Dv → Int → Option Bool) (h3 : ∀ t1 t2 t5 t7, rec 3 (st4_3 t1 t2 t5 t7) = k3 t1 t2 t5 t7) (d : Nat) (t1 : List Int) (t2 : Dv) : F4.labD (bodyOf Try.f4) tabR tyR true (cs4 n) rec (d + 2) 1 (st4_1 t1 t2) = c4_1 n k3 t1 t2 := by
  have e2 : ∀ t1 t2 t5, F4.labX (bodyOf Try.f4) tabR tyR true (cs4 n) rec (d + 1) 2 (st4_2 t1 t2 t5) = c4_2 n k3 t1 t2 t5 := fun t1 t2 t5 => (Fn.labX_step _ _ _ _ _ _ _ _ _ _ (by kernel_rfl)).trans (n4_2 n rec k3 h3 d t1 t2 t5)
  show F4.labD (bodyOf Try.f4) tabR tyR true (cs4 n) rec ((d + 1) + 1) 1 _ = _
  rw [Fn.labD_succ, p4_1]
  simp only [e2]
  rfl
theorem m4_3 (n : Nat) : ∀ m : Nat, (∀ t1 t2 t5 t7, F4.labM (bodyOf Try.f4) tabR tyR true (cs4 n) m 3 (st4_3 t1 t2 t5 t7) = l4_3 n m t1 t2 t5 t7) := by
  intro m
  induction m with
  | zero => exact fun _ _ _ _ => rfl
  | succ m ih =>
    intro t1 t2 t5 t7
    have e3 : ∀ t1 t2 t5 t7, F4.labX (bodyOf Try.f4) tabR tyR true (cs4 n) (F4.labM (bodyOf Try.f4) tabR tyR true (cs4 n) m) 4 3 (st4_3 t1 t2 t5 t7) = (l4_3 n m) t1 t2 t5 t7 := fun t1 t2 t5 t7 => (Fn.labX_loop _ _ _ _ _ _ _ _ _ _ (by kernel_rfl)).trans (ih t1 t2 t5 t7)
    rw [Fn.labM_succ]
    show F4.labD (bodyOf Try.f4) tabR tyR true (cs4 n) (F4.labM (bodyOf Try.f4) tabR tyR true (cs4 n) m) (4 + 1) 3 _ = _
    rw [Fn.labD_succ, p4_3]
    simp only [e3]
    rfl
theorem w4 (n : Nat) (x : PTs.den F4.ps) : F4.body (bodyOf Try.f4) tabR tyR true (cs4 n) (F4.labX (bodyOf Try.f4) tabR tyR true (cs4 n) (F4.labM (bodyOf Try.f4) tabR tyR true (cs4 n) n) F4.D) x = o4_0 n (c4_1 n (l4_3 n n)) x.1 x.2.1 := by
  have e1 : ∀ t1 t2, F4.labX (bodyOf Try.f4) tabR tyR true (cs4 n) (F4.labM (bodyOf Try.f4) tabR tyR true (cs4 n) n) 5 1 (st4_1 t1 t2) = c4_1 n (l4_3 n n) t1 t2 := fun t1 t2 => (Fn.labX_step _ _ _ _ _ _ _ _ _ _ (by kernel_rfl)).trans (n4_1 n (F4.labM (bodyOf Try.f4) tabR tyR true (cs4 n) n) (l4_3 n n) (m4_3 n n) 3 t1 t2)
  show F4.body (bodyOf Try.f4) tabR tyR true (cs4 n) (F4.labX (bodyOf Try.f4) tabR tyR true (cs4 n) (F4.labM (bodyOf Try.f4) tabR tyR true (cs4 n) n) 5) x = _
  rw [p4_0]
  simp only [e1]
  try rfl
theorem call4 : Callable Try.prog 4 := callable_of Try.func4 (by kernel_rfl) (by kernel_rfl)
theorem ok4 (n : Nat) : Cal.Ok Try.prog ⟨4, F4.ps, F4.rs, F4.fr, fun a => f4 n a.1 a.2.1⟩ :=
  cal_of_fn F4 (code := bodyOf Try.f4) Try.func4 (by kernel_rfl) (by kernel_rfl) call4 htabR (cs := cs4 n) (fun c hc => by
      simp only [cs4, List.mem_cons, List.not_mem_nil, or_false] at hc
      rcases hc with rfl | rfl | rfl | rfl | rfl | rfl | rfl
      · exact ok34 n
      · exact ok35 n
      · exact ok37 n
      · exact ok39 n
      · exact ok41 n
      · exact ok43 n
      · exact ok44 n) (fun _ => mixed) (by kernel_rfl) (by kernel_rfl) (by decide) (fun x => ⟨n, w4 n x⟩)
end Go.Proofs.Yteaglcbnkephgaa
