/-
  What the statement computes, as a plain function.
-/
import Derived.Test.YteaglcbnkephgaaGenK
set_option linter.unusedSimpArgs false
set_option linter.unusedVariables false
namespace Go.Proofs.Yteaglcbnkephgaa
open Go Go.RowKit
set_option maxRecDepth 100000
-- tranship/transhiplaw04.wakes
def o61_0 (n : Nat) : Option Bool :=
  (f83 n (Tm.mk (14 : Int) (0 : Int) (0 : Int) (0 : Int) [(Tm.mk (1 : Int) (0 : Int) (0 : Int) (0 : Int) ([] : List Tm)), (Tm.mk (2 : Int) (1 : Int) (0 : Int) (0 : Int) ([] : List Tm))])).bind fun x1 =>
  if x1 then
    (f86 n (Tm.mk (14 : Int) (0 : Int) (0 : Int) (0 : Int) [(Tm.mk (1 : Int) (0 : Int) (0 : Int) (0 : Int) ([] : List Tm)), (Tm.mk (2 : Int) (1 : Int) (0 : Int) (0 : Int) ([] : List Tm))])).bind fun x2 =>
    if x2 then
      (f84 n (Tm.mk (14 : Int) (0 : Int) (0 : Int) (0 : Int) [(Tm.mk (1 : Int) (0 : Int) (0 : Int) (0 : Int) ([] : List Tm)), (Tm.mk (2 : Int) (1 : Int) (0 : Int) (0 : Int) ([] : List Tm))])).bind fun x3 =>
      if (!x3) then
        (f89 n (Tm.mk (14 : Int) (0 : Int) (0 : Int) (0 : Int) [(Tm.mk (1 : Int) (0 : Int) (0 : Int) (0 : Int) ([] : List Tm)), (Tm.mk (2 : Int) (1 : Int) (0 : Int) (0 : Int) ([] : List Tm))])).bind fun x4 =>
        if (decide (x4 = (1 : Int))) then
          (f63 n (Tm.mk (14 : Int) (0 : Int) (0 : Int) (0 : Int) [(Tm.mk (1 : Int) (0 : Int) (0 : Int) (0 : Int) ([] : List Tm)), (Tm.mk (2 : Int) (1 : Int) (0 : Int) (0 : Int) ([] : List Tm))])).bind fun x5 =>
          if (decide (x5 = (3 : Int))) then
            (f64 n (Tm.mk (14 : Int) (0 : Int) (0 : Int) (0 : Int) [(Tm.mk (1 : Int) (0 : Int) (0 : Int) (0 : Int) ([] : List Tm)), (Tm.mk (2 : Int) (1 : Int) (0 : Int) (0 : Int) ([] : List Tm))])).bind fun x6 =>
            if (decide (x6 = (2 : Int))) then
              (f57 (23 : Int) (16 : Int)).bind fun x7 =>
              if (decide (x7 = (12 : Int))) then
                (f59 (22 : Int) (2 : Int)).bind fun x8 =>
                if (decide (x8 = (2 : Int))) then
                  (f83 n (Tm.mk (0 : Int) (0 : Int) (0 : Int) (0 : Int) ([] : List Tm))).bind fun x9 =>
                  some (!x9)
                else
                  some false
              else
                some false
            else
              some false
          else
            some false
        else
          some false
      else
        some false
    else
      some false
  else
    some false
def f61 (n : Nat) : Option Bool := o61_0 n
def an61 : An := .z
def F61 : Fn := { f := 61, a := an61, vars := [.tmp 0], ps := [], rs := [.sc .bool], own := false, fr := true, nt := 45, D := 2, loops := [] }
def cs61 (n : Nat) : List Cal := [⟨57, [.sc .int, .sc .int], [.sc .int], true, fun a => f57 a.1 a.2.1⟩, ⟨59, [.sc .int, .sc .int], [.sc .int], true, fun a => f59 a.1 a.2.1⟩, ⟨63, [.st .tm], [.sc .int], true, fun a => f63 n a.1⟩, ⟨64, [.st .tm], [.sc .int], true, fun a => f64 n a.1⟩, ⟨83, [.st .tm], [.sc .bool], true, fun a => f83 n a.1⟩, ⟨84, [.st .tm], [.sc .bool], true, fun a => f84 n a.1⟩, ⟨86, [.st .tm], [.sc .bool], true, fun a => f86 n a.1⟩, ⟨89, [.st .tm], [.sc .int], true, fun a => f89 n a.1⟩]
theorem p61_0 (n : Nat) (lab : Nat → SS → Option (RT.den F61.rs)) (x : PTs.den F61.ps) : F61.body (bodyOf Try.f61) tabR tyR true (cs61 n) lab x = o61_0 n := by kernel_rfl
theorem w61 (n : Nat) (x : PTs.den F61.ps) : F61.body (bodyOf Try.f61) tabR tyR true (cs61 n) (F61.labX (bodyOf Try.f61) tabR tyR true (cs61 n) (F61.labM (bodyOf Try.f61) tabR tyR true (cs61 n) 0) F61.D) x = o61_0 n := by
  show F61.body (bodyOf Try.f61) tabR tyR true (cs61 n) (F61.labX (bodyOf Try.f61) tabR tyR true (cs61 n) (F61.labM (bodyOf Try.f61) tabR tyR true (cs61 n) 0) 2) x = _
  rw [p61_0]
theorem call61 : Callable Try.prog 61 := callable_of Try.func61 (by kernel_rfl) (by kernel_rfl)
theorem ok61 (n : Nat) : Cal.Ok Try.prog ⟨61, F61.ps, F61.rs, F61.fr, fun _ => f61 n⟩ :=
  cal_of_fn F61 (code := bodyOf Try.f61) Try.func61 (by kernel_rfl) (by kernel_rfl) call61 htabR (cs := cs61 n) (fun c hc => by
      simp only [cs61, List.mem_cons, List.not_mem_nil, or_false] at hc
      rcases hc with rfl | rfl | rfl | rfl | rfl | rfl | rfl | rfl
      · exact ok57
      · exact ok59
      · exact ok63 n
      · exact ok64 n
      · exact ok83 n
      · exact ok84 n
      · exact ok86 n
      · exact ok89 n) (fun _ => mixed) (by kernel_rfl) (by kernel_rfl) (by decide) (fun x => ⟨0, w61 n x⟩)
-- tranship/transhiplaw04.TermSums
def o8_0 (n : Nat) (k1 : Tm → Int → Int → Int → Option Bool) (a0 : Tm) : Option Bool :=
  (f62 n a0 (400 : Int)).bind fun x1 =>
  if x1 then
    some true
  else
    k1 a0 (1 : Int) (0 : Int) (0 : Int)
def o8_1 (n : Nat) (k1 : Tm → Int → Int → Int → Option Bool) (t1 : Tm) (t3 : Int) (t4 : Int) (t5 : Int) : Option Bool :=
  if (decide (t5 < (t1.kids.length : Int))) then
    atI t1.kids t5 fun x2 =>
    (f63 n x2).bind fun x3 =>
    ckI (t3 + x3) <|
    atI t1.kids t5 fun x4 =>
    (f64 n x4).bind fun x5 =>
    ckI (t5 + (1 : Int)) <|
    k1 t1 (t3 + x3) (max t4 x5) (t5 + (1 : Int))
  else
    (f63 n t1).bind fun x6 =>
    if (decide (x6 = t3)) then
      (f64 n t1).bind fun x7 =>
      ckI (t4 + (1 : Int)) <|
      if (decide (x7 = (t4 + (1 : Int)))) then
        (f61 n).bind fun x8 =>
        some x8
      else
        some false
    else
      some false
def l8_1 (n : Nat) : Nat → Tm → Int → Int → Int → Option Bool
  | 0, _, _, _, _ => none
  | m + 1, t1, t3, t4, t5 => o8_1 n (l8_1 n m) t1 t3 t4 t5
def f8 (n : Nat) (a0 : Tm) : Option Bool := o8_0 n (l8_1 n n) a0
def an8 : An := (.n none [] 0 .z (.n none [] 0 .z (.n none [] 0 .z (.n none [] 0 (.n none [] 0 .z (.n none [] 0 (.n (some 1) [(1, .ps 0 .tm false), (3, .one .c), (4, .one .c), (5, .one .c)] 1 .z .z) .z)) .z))))
def F8 : Fn := { f := 8, a := an8, vars := [.tmp 2], ps := [.st .tm], rs := [.sc .bool], own := false, fr := true, nt := 45, D := 3, loops := [1] }
def cs8 (n : Nat) : List Cal := [⟨61, [], [.sc .bool], true, fun a => f61 n⟩, ⟨62, [.st .tm, .sc .int], [.sc .bool], true, fun a => f62 n a.1 a.2.1⟩, ⟨63, [.st .tm], [.sc .int], true, fun a => f63 n a.1⟩, ⟨64, [.st .tm], [.sc .int], true, fun a => f64 n a.1⟩]
def st8_1 (t1 : Tm) (t3 : Int) (t4 : Int) (t5 : Int) : SS := ⟨[(1, .v (.one (.ptr 0 0))), (3, .v (.one (.c (.int t3) true))), (4, .v (.one (.c (.int t4) true))), (5, .v (.one (.c (.int t5) true)))], [(0, some (.bst .tm t1 false))], 1⟩
theorem p8_0 (n : Nat) (lab : Nat → SS → Option (RT.den F8.rs)) (x : PTs.den F8.ps) : F8.body (bodyOf Try.f8) tabR tyR true (cs8 n) lab x = o8_0 n (fun t1 t3 t4 t5 => lab 1 (st8_1 t1 t3 t4 t5)) x.1 := by kernel_rfl
theorem p8_1 (n : Nat) (lab : Nat → SS → Option (RT.den F8.rs)) (t1 : Tm) (t3 : Int) (t4 : Int) (t5 : Int) : F8.at (bodyOf Try.f8) tabR tyR true (cs8 n) lab 1 (st8_1 t1 t3 t4 t5) = o8_1 n (fun t1 t3 t4 t5 => lab 1 (st8_1 t1 t3 t4 t5)) t1 t3 t4 t5 := by kernel_rfl
theorem m8_1 (n : Nat) : ∀ m : Nat, (∀ t1 t3 t4 t5, F8.labM (bodyOf Try.f8) tabR tyR true (cs8 n) m 1 (st8_1 t1 t3 t4 t5) = l8_1 n m t1 t3 t4 t5) := by
  intro m
  induction m with
  | zero => exact fun _ _ _ _ => rfl
  | succ m ih =>
    intro t1 t3 t4 t5
    have e1 : ∀ t1 t3 t4 t5, F8.labX (bodyOf Try.f8) tabR tyR true (cs8 n) (F8.labM (bodyOf Try.f8) tabR tyR true (cs8 n) m) 2 1 (st8_1 t1 t3 t4 t5) = (l8_1 n m) t1 t3 t4 t5 := fun t1 t3 t4 t5 => (Fn.labX_loop _ _ _ _ _ _ _ _ _ _ (by kernel_rfl)).trans (ih t1 t3 t4 t5)
    rw [Fn.labM_succ]
    show F8.labD (bodyOf Try.f8) tabR tyR true (cs8 n) (F8.labM (bodyOf Try.f8) tabR tyR true (cs8 n) m) (2 + 1) 1 _ = _
    rw [Fn.labD_succ, p8_1]
    simp only [e1]
    rfl
theorem w8 (n : Nat) (x : PTs.den F8.ps) : F8.body (bodyOf Try.f8) tabR tyR true (cs8 n) (F8.labX (bodyOf Try.f8) tabR tyR true (cs8 n) (F8.labM (bodyOf Try.f8) tabR tyR true (cs8 n) n) F8.D) x = o8_0 n (l8_1 n n) x.1 := by
  have e1 : ∀ t1 t3 t4 t5, F8.labX (bodyOf Try.f8) tabR tyR true (cs8 n) (F8.labM (bodyOf Try.f8) tabR tyR true (cs8 n) n) 3 1 (st8_1 t1 t3 t4 t5) = (l8_1 n n) t1 t3 t4 t5 := fun t1 t3 t4 t5 => (Fn.labX_loop _ _ _ _ _ _ _ _ _ _ (by kernel_rfl)).trans ((m8_1 n n) t1 t3 t4 t5)
  show F8.body (bodyOf Try.f8) tabR tyR true (cs8 n) (F8.labX (bodyOf Try.f8) tabR tyR true (cs8 n) (F8.labM (bodyOf Try.f8) tabR tyR true (cs8 n) n) 3) x = _
  rw [p8_0]
  simp only [e1]
  try rfl
theorem call8 : Callable Try.prog 8 := callable_of Try.func8 (by kernel_rfl) (by kernel_rfl)
theorem ok8 (n : Nat) : Cal.Ok Try.prog ⟨8, F8.ps, F8.rs, F8.fr, fun a => f8 n a.1⟩ :=
  cal_of_fn F8 (code := bodyOf Try.f8) Try.func8 (by kernel_rfl) (by kernel_rfl) call8 htabR (cs := cs8 n) (fun c hc => by
      simp only [cs8, List.mem_cons, List.not_mem_nil, or_false] at hc
      rcases hc with rfl | rfl | rfl | rfl
      · exact ok61 n
      · exact ok62 n
      · exact ok63 n
      · exact ok64 n) (fun _ => mixed) (by kernel_rfl) (by kernel_rfl) (by decide) (fun x => ⟨n, w8 n x⟩)
end Go.Proofs.Yteaglcbnkephgaa
