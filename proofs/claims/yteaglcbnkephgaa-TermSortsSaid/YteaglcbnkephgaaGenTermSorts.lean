/-
  What the statement computes, as a plain function.
-/
import Derived.Test.YteaglcbnkephgaaGenK
set_option linter.unusedSimpArgs false
set_option linter.unusedVariables false
namespace Go.Proofs.Yteaglcbnkephgaa
open Go Go.RowKit
set_option maxRecDepth 100000
-- tranship/transhiplaw04.wakes
def o61_0 (n : Nat) : Option Bool :=
  (f83 n (Tm.mk (14 : Int) (0 : Int) (0 : Int) (0 : Int) [(Tm.mk (1 : Int) (0 : Int) (0 : Int) (0 : Int) ([] : List Tm)), (Tm.mk (2 : Int) (1 : Int) (0 : Int) (0 : Int) ([] : List Tm))])).bind fun x1 =>
  if x1 then
    (f86 n (Tm.mk (14 : Int) (0 : Int) (0 : Int) (0 : Int) [(Tm.mk (1 : Int) (0 : Int) (0 : Int) (0 : Int) ([] : List Tm)), (Tm.mk (2 : Int) (1 : Int) (0 : Int) (0 : Int) ([] : List Tm))])).bind fun x2 =>
    if x2 then
      (f84 n (Tm.mk (14 : Int) (0 : Int) (0 : Int) (0 : Int) [(Tm.mk (1 : Int) (0 : Int) (0 : Int) (0 : Int) ([] : List Tm)), (Tm.mk (2 : Int) (1 : Int) (0 : Int) (0 : Int) ([] : List Tm))])).bind fun x3 =>
      if (!x3) then
        (f89 n (Tm.mk (14 : Int) (0 : Int) (0 : Int) (0 : Int) [(Tm.mk (1 : Int) (0 : Int) (0 : Int) (0 : Int) ([] : List Tm)), (Tm.mk (2 : Int) (1 : Int) (0 : Int) (0 : Int) ([] : List Tm))])).bind fun x4 =>
        if (decide (x4 = (1 : Int))) then
          (f63 n (Tm.mk (14 : Int) (0 : Int) (0 : Int) (0 : Int) [(Tm.mk (1 : Int) (0 : Int) (0 : Int) (0 : Int) ([] : List Tm)), (Tm.mk (2 : Int) (1 : Int) (0 : Int) (0 : Int) ([] : List Tm))])).bind fun x5 =>
          if (decide (x5 = (3 : Int))) then
            (f64 n (Tm.mk (14 : Int) (0 : Int) (0 : Int) (0 : Int) [(Tm.mk (1 : Int) (0 : Int) (0 : Int) (0 : Int) ([] : List Tm)), (Tm.mk (2 : Int) (1 : Int) (0 : Int) (0 : Int) ([] : List Tm))])).bind fun x6 =>
            if (decide (x6 = (2 : Int))) then
              (f57 (23 : Int) (16 : Int)).bind fun x7 =>
              if (decide (x7 = (12 : Int))) then
                (f59 (22 : Int) (2 : Int)).bind fun x8 =>
                if (decide (x8 = (2 : Int))) then
                  (f83 n (Tm.mk (0 : Int) (0 : Int) (0 : Int) (0 : Int) ([] : List Tm))).bind fun x9 =>
                  some (!x9)
                else
                  some false
              else
                some false
            else
              some false
          else
            some false
        else
          some false
      else
        some false
    else
      some false
  else
    some false
def f61 (n : Nat) : Option Bool := o61_0 n
def an61 : An := .z
def F61 : Fn := { f := 61, a := an61, vars := [.tmp 0], ps := [], rs := [.sc .bool], own := false, fr := true, nt := 45, D := 2, loops := [] }
def cs61 (n : Nat) : List Cal := [⟨57, [.sc .int, .sc .int], [.sc .int], true, fun a => f57 a.1 a.2.1⟩, ⟨59, [.sc .int, .sc .int], [.sc .int], true, fun a => f59 a.1 a.2.1⟩, ⟨63, [.st .tm], [.sc .int], true, fun a => f63 n a.1⟩, ⟨64, [.st .tm], [.sc .int], true, fun a => f64 n a.1⟩, ⟨83, [.st .tm], [.sc .bool], true, fun a => f83 n a.1⟩, ⟨84, [.st .tm], [.sc .bool], true, fun a => f84 n a.1⟩, ⟨86, [.st .tm], [.sc .bool], true, fun a => f86 n a.1⟩, ⟨89, [.st .tm], [.sc .int], true, fun a => f89 n a.1⟩]
theorem p61_0 (n : Nat) (lab : Nat → SS → Option (RT.den F61.rs)) (x : PTs.den F61.ps) : F61.body (bodyOf Try.f61) tabR tyR true (cs61 n) lab x = o61_0 n := by kernel_rfl
theorem w61 (n : Nat) (x : PTs.den F61.ps) : F61.body (bodyOf Try.f61) tabR tyR true (cs61 n) (F61.labX (bodyOf Try.f61) tabR tyR true (cs61 n) (F61.labM (bodyOf Try.f61) tabR tyR true (cs61 n) 0) F61.D) x = o61_0 n := by
  show F61.body (bodyOf Try.f61) tabR tyR true (cs61 n) (F61.labX (bodyOf Try.f61) tabR tyR true (cs61 n) (F61.labM (bodyOf Try.f61) tabR tyR true (cs61 n) 0) 2) x = _
  rw [p61_0]
theorem call61 : Callable Try.prog 61 := callable_of Try.func61 (by kernel_rfl) (by kernel_rfl)
theorem ok61 (n : Nat) : Cal.Ok Try.prog ⟨61, F61.ps, F61.rs, F61.fr, fun _ => f61 n⟩ :=
  cal_of_fn F61 (code := bodyOf Try.f61) Try.func61 (by kernel_rfl) (by kernel_rfl) call61 htabR (cs := cs61 n) (fun c hc => by
      simp only [cs61, List.mem_cons, List.not_mem_nil, or_false] at hc
      rcases hc with rfl | rfl | rfl | rfl | rfl | rfl | rfl | rfl
      · exact ok57
      · exact ok59
      · exact ok63 n
      · exact ok64 n
      · exact ok83 n
      · exact ok84 n
      · exact ok86 n
      · exact ok89 n) (fun _ => mixed) (by kernel_rfl) (by kernel_rfl) (by decide) (fun x => ⟨0, w61 n x⟩)
-- tranship/transhiplaw04.TermSorts
def o18_0 (n : Nat) (k1 : Tm → Bool → Bool → Option Bool) (a0 : Tm) : Option Bool :=
  (f62 n a0 (400 : Int)).bind fun x1 =>
  if x1 then
    some true
  else
    (f84 n a0).bind fun x2 =>
    (f86 n a0).bind fun x3 =>
    (f83 n a0).bind fun x4 =>
    if x2 then
      if (!(x4 == true)) then
        some false
      else
        if x2 then
          if (decide (a0.kind = (1 : Int))) then
            if (!(x3 == true)) then
              some false
            else
              (f85 n a0).bind fun x5 =>
              if x5 then
                if (!x2) then
                  some false
                else
                  if x3 then
                    (f85 n a0).bind fun x6 =>
                    if (decide (a0.kind = (1 : Int))) then
                      if (!(x6 == true)) then
                        some false
                      else
                        k1 a0 x2 x3
                    else
                      if (!(x6 == (decide (a0.kind = (2 : Int))))) then
                        some false
                      else
                        k1 a0 x2 x3
                  else
                    k1 a0 x2 x3
              else
                if x3 then
                  (f85 n a0).bind fun x7 =>
                  if (decide (a0.kind = (1 : Int))) then
                    if (!(x7 == true)) then
                      some false
                    else
                      k1 a0 x2 x3
                  else
                    if (!(x7 == (decide (a0.kind = (2 : Int))))) then
                      some false
                    else
                      k1 a0 x2 x3
                else
                  k1 a0 x2 x3
          else
            if (!(x3 == (decide (a0.kind = (2 : Int))))) then
              some false
            else
              (f85 n a0).bind fun x8 =>
              if x8 then
                if (!x2) then
                  some false
                else
                  if x3 then
                    (f85 n a0).bind fun x9 =>
                    if (decide (a0.kind = (1 : Int))) then
                      if (!(x9 == true)) then
                        some false
                      else
                        k1 a0 x2 x3
                    else
                      if (!(x9 == (decide (a0.kind = (2 : Int))))) then
                        some false
                      else
                        k1 a0 x2 x3
                  else
                    k1 a0 x2 x3
              else
                if x3 then
                  (f85 n a0).bind fun x10 =>
                  if (decide (a0.kind = (1 : Int))) then
                    if (!(x10 == true)) then
                      some false
                    else
                      k1 a0 x2 x3
                  else
                    if (!(x10 == (decide (a0.kind = (2 : Int))))) then
                      some false
                    else
                      k1 a0 x2 x3
                else
                  k1 a0 x2 x3
        else
          (f85 n a0).bind fun x11 =>
          if x11 then
            if (!x2) then
              some false
            else
              if x3 then
                (f85 n a0).bind fun x12 =>
                if (decide (a0.kind = (1 : Int))) then
                  if (!(x12 == true)) then
                    some false
                  else
                    k1 a0 x2 x3
                else
                  if (!(x12 == (decide (a0.kind = (2 : Int))))) then
                    some false
                  else
                    k1 a0 x2 x3
              else
                k1 a0 x2 x3
          else
            if x3 then
              (f85 n a0).bind fun x13 =>
              if (decide (a0.kind = (1 : Int))) then
                if (!(x13 == true)) then
                  some false
                else
                  k1 a0 x2 x3
              else
                if (!(x13 == (decide (a0.kind = (2 : Int))))) then
                  some false
                else
                  k1 a0 x2 x3
            else
              k1 a0 x2 x3
    else
      if (!(x4 == x3)) then
        some false
      else
        if x2 then
          if (decide (a0.kind = (1 : Int))) then
            if (!(x3 == true)) then
              some false
            else
              (f85 n a0).bind fun x14 =>
              if x14 then
                if (!x2) then
                  some false
                else
                  if x3 then
                    (f85 n a0).bind fun x15 =>
                    if (decide (a0.kind = (1 : Int))) then
                      if (!(x15 == true)) then
                        some false
                      else
                        k1 a0 x2 x3
                    else
                      if (!(x15 == (decide (a0.kind = (2 : Int))))) then
                        some false
                      else
                        k1 a0 x2 x3
                  else
                    k1 a0 x2 x3
              else
                if x3 then
                  (f85 n a0).bind fun x16 =>
                  if (decide (a0.kind = (1 : Int))) then
                    if (!(x16 == true)) then
                      some false
                    else
                      k1 a0 x2 x3
                  else
                    if (!(x16 == (decide (a0.kind = (2 : Int))))) then
                      some false
                    else
                      k1 a0 x2 x3
                else
                  k1 a0 x2 x3
          else
            if (!(x3 == (decide (a0.kind = (2 : Int))))) then
              some false
            else
              (f85 n a0).bind fun x17 =>
              if x17 then
                if (!x2) then
                  some false
                else
                  if x3 then
                    (f85 n a0).bind fun x18 =>
                    if (decide (a0.kind = (1 : Int))) then
                      if (!(x18 == true)) then
                        some false
                      else
                        k1 a0 x2 x3
                    else
                      if (!(x18 == (decide (a0.kind = (2 : Int))))) then
                        some false
                      else
                        k1 a0 x2 x3
                  else
                    k1 a0 x2 x3
              else
                if x3 then
                  (f85 n a0).bind fun x19 =>
                  if (decide (a0.kind = (1 : Int))) then
                    if (!(x19 == true)) then
                      some false
                    else
                      k1 a0 x2 x3
                  else
                    if (!(x19 == (decide (a0.kind = (2 : Int))))) then
                      some false
                    else
                      k1 a0 x2 x3
                else
                  k1 a0 x2 x3
        else
          (f85 n a0).bind fun x20 =>
          if x20 then
            if (!x2) then
              some false
            else
              if x3 then
                (f85 n a0).bind fun x21 =>
                if (decide (a0.kind = (1 : Int))) then
                  if (!(x21 == true)) then
                    some false
                  else
                    k1 a0 x2 x3
                else
                  if (!(x21 == (decide (a0.kind = (2 : Int))))) then
                    some false
                  else
                    k1 a0 x2 x3
              else
                k1 a0 x2 x3
          else
            if x3 then
              (f85 n a0).bind fun x22 =>
              if (decide (a0.kind = (1 : Int))) then
                if (!(x22 == true)) then
                  some false
                else
                  k1 a0 x2 x3
              else
                if (!(x22 == (decide (a0.kind = (2 : Int))))) then
                  some false
                else
                  k1 a0 x2 x3
            else
              k1 a0 x2 x3
def o18_1 (n : Nat) (k2 : Tm → Bool → Bool → Int → Option Bool) (t1 : Tm) (t3 : Bool) (t4 : Bool) : Option Bool :=
  k2 t1 t3 t4 (0 : Int)
def o18_2 (n : Nat) (k3 : Tm → Bool → Bool → Int → Option Bool) (t1 : Tm) (t3 : Bool) (t4 : Bool) (t5 : Int) : Option Bool :=
  if (decide (t5 < (t1.kids.length : Int))) then
    (f83 n t1).bind fun x23 =>
    if x23 then
      k3 t1 t3 t4 t5
    else
      (f61 n).bind fun x24 =>
      some x24
  else
    (f61 n).bind fun x25 =>
    some x25
def o18_3 (n : Nat) (k2 : Tm → Bool → Bool → Int → Option Bool) (t1 : Tm) (t3 : Bool) (t4 : Bool) (t5 : Int) : Option Bool :=
  atI t1.kids t5 fun x26 =>
  (f83 n x26).bind fun x27 =>
  if (!x27) then
    some false
  else
    if t4 then
      if (!t3) then
        atI t1.kids t5 fun x28 =>
        (f86 n x28).bind fun x29 =>
        if (!x29) then
          some false
        else
          if t3 then
            if (!t4) then
              atI t1.kids t5 fun x30 =>
              (f84 n x30).bind fun x31 =>
              if (!decide (t1.kind = (12 : Int))) then
                if (!(x31 == true)) then
                  some false
                else
                  ckI (t5 + (1 : Int)) <|
                  k2 t1 t3 t4 (t5 + (1 : Int))
              else
                if (!decide (t5 = (2 : Int))) then
                  if (!(x31 == true)) then
                    some false
                  else
                    ckI (t5 + (1 : Int)) <|
                    k2 t1 t3 t4 (t5 + (1 : Int))
                else
                  atI t1.kids t5 fun x32 =>
                  if (decide (x32.kind = (1 : Int))) then
                    if (!(x31 == true)) then
                      some false
                    else
                      ckI (t5 + (1 : Int)) <|
                      k2 t1 t3 t4 (t5 + (1 : Int))
                  else
                    atI t1.kids t5 fun x33 =>
                    if (!(x31 == (decide (x33.kind = (2 : Int))))) then
                      some false
                    else
                      ckI (t5 + (1 : Int)) <|
                      k2 t1 t3 t4 (t5 + (1 : Int))
            else
              ckI (t5 + (1 : Int)) <|
              k2 t1 t3 t4 (t5 + (1 : Int))
          else
            ckI (t5 + (1 : Int)) <|
            k2 t1 t3 t4 (t5 + (1 : Int))
      else
        if t3 then
          if (!t4) then
            atI t1.kids t5 fun x34 =>
            (f84 n x34).bind fun x35 =>
            if (!decide (t1.kind = (12 : Int))) then
              if (!(x35 == true)) then
                some false
              else
                ckI (t5 + (1 : Int)) <|
                k2 t1 t3 t4 (t5 + (1 : Int))
            else
              if (!decide (t5 = (2 : Int))) then
                if (!(x35 == true)) then
                  some false
                else
                  ckI (t5 + (1 : Int)) <|
                  k2 t1 t3 t4 (t5 + (1 : Int))
              else
                atI t1.kids t5 fun x36 =>
                if (decide (x36.kind = (1 : Int))) then
                  if (!(x35 == true)) then
                    some false
                  else
                    ckI (t5 + (1 : Int)) <|
                    k2 t1 t3 t4 (t5 + (1 : Int))
                else
                  atI t1.kids t5 fun x37 =>
                  if (!(x35 == (decide (x37.kind = (2 : Int))))) then
                    some false
                  else
                    ckI (t5 + (1 : Int)) <|
                    k2 t1 t3 t4 (t5 + (1 : Int))
          else
            ckI (t5 + (1 : Int)) <|
            k2 t1 t3 t4 (t5 + (1 : Int))
        else
          ckI (t5 + (1 : Int)) <|
          k2 t1 t3 t4 (t5 + (1 : Int))
    else
      if t3 then
        if (!t4) then
          atI t1.kids t5 fun x38 =>
          (f84 n x38).bind fun x39 =>
          if (!decide (t1.kind = (12 : Int))) then
            if (!(x39 == true)) then
              some false
            else
              ckI (t5 + (1 : Int)) <|
              k2 t1 t3 t4 (t5 + (1 : Int))
          else
            if (!decide (t5 = (2 : Int))) then
              if (!(x39 == true)) then
                some false
              else
                ckI (t5 + (1 : Int)) <|
                k2 t1 t3 t4 (t5 + (1 : Int))
            else
              atI t1.kids t5 fun x40 =>
              if (decide (x40.kind = (1 : Int))) then
                if (!(x39 == true)) then
                  some false
                else
                  ckI (t5 + (1 : Int)) <|
                  k2 t1 t3 t4 (t5 + (1 : Int))
              else
                atI t1.kids t5 fun x41 =>
                if (!(x39 == (decide (x41.kind = (2 : Int))))) then
                  some false
                else
                  ckI (t5 + (1 : Int)) <|
                  k2 t1 t3 t4 (t5 + (1 : Int))
        else
          ckI (t5 + (1 : Int)) <|
          k2 t1 t3 t4 (t5 + (1 : Int))
      else
        ckI (t5 + (1 : Int)) <|
        k2 t1 t3 t4 (t5 + (1 : Int))
def c18_1 (n : Nat) (k2 : Tm → Bool → Bool → Int → Option Bool) (t1 : Tm) (t3 : Bool) (t4 : Bool) : Option Bool :=
  o18_1 n k2 t1 t3 t4
def c18_3 (n : Nat) (k2 : Tm → Bool → Bool → Int → Option Bool) (t1 : Tm) (t3 : Bool) (t4 : Bool) (t5 : Int) : Option Bool :=
  o18_3 n k2 t1 t3 t4 t5
def l18_2 (n : Nat) : Nat → Tm → Bool → Bool → Int → Option Bool
  | 0, _, _, _, _ => none
  | m + 1, t1, t3, t4, t5 => o18_2 n (c18_3 n (l18_2 n m)) t1 t3 t4 t5
def f18 (n : Nat) (a0 : Tm) : Option Bool := o18_0 n (c18_1 n (l18_2 n n)) a0
def an18 : An := (.n none [] 0 .z (.n none [] 0 .z (.n none [] 0 .z (.n (some 1) [(1, .ps 0 .tm false), (3, .one .c), (4, .one .c)] 1 .z (.n none [] 0 (.n none [] 0 .z (.n none [] 0 (.n (some 2) [(1, .ps 0 .tm false), (3, .one .c), (4, .one .c), (5, .one .c)] 1 (.n (some 3) [(1, .ps 0 .tm false), (3, .one .c), (4, .one .c), (5, .one .c)] 1 .z .z) .z) .z)) .z)))))
def F18 : Fn := { f := 18, a := an18, vars := [.tmp 2], ps := [.st .tm], rs := [.sc .bool], own := false, fr := true, nt := 134, D := 5, loops := [2] }
def cs18 (n : Nat) : List Cal := [⟨61, [], [.sc .bool], true, fun a => f61 n⟩, ⟨62, [.st .tm, .sc .int], [.sc .bool], true, fun a => f62 n a.1 a.2.1⟩, ⟨83, [.st .tm], [.sc .bool], true, fun a => f83 n a.1⟩, ⟨84, [.st .tm], [.sc .bool], true, fun a => f84 n a.1⟩, ⟨85, [.st .tm], [.sc .bool], true, fun a => f85 n a.1⟩, ⟨86, [.st .tm], [.sc .bool], true, fun a => f86 n a.1⟩]
def st18_1 (t1 : Tm) (t3 : Bool) (t4 : Bool) : SS := ⟨[(1, .v (.one (.ptr 0 0))), (3, .v (.one (.c (.bool t3) true))), (4, .v (.one (.c (.bool t4) true)))], [(0, some (.bst .tm t1 false))], 1⟩
def st18_2 (t1 : Tm) (t3 : Bool) (t4 : Bool) (t5 : Int) : SS := ⟨[(1, .v (.one (.ptr 0 0))), (3, .v (.one (.c (.bool t3) true))), (4, .v (.one (.c (.bool t4) true))), (5, .v (.one (.c (.int t5) true)))], [(0, some (.bst .tm t1 false))], 1⟩
def st18_3 (t1 : Tm) (t3 : Bool) (t4 : Bool) (t5 : Int) : SS := ⟨[(1, .v (.one (.ptr 0 0))), (3, .v (.one (.c (.bool t3) true))), (4, .v (.one (.c (.bool t4) true))), (5, .v (.one (.c (.int t5) true)))], [(0, some (.bst .tm t1 false))], 1⟩
theorem p18_0 (n : Nat) (lab : Nat → SS → Option (RT.den F18.rs)) (x : PTs.den F18.ps) : F18.body (bodyOf Try.f18) tabR tyR true (cs18 n) lab x = o18_0 n (fun t1 t3 t4 => lab 1 (st18_1 t1 t3 t4)) x.1 := by kernel_rfl
theorem p18_1 (n : Nat) (lab : Nat → SS → Option (RT.den F18.rs)) (t1 : Tm) (t3 : Bool) (t4 : Bool) : F18.at (bodyOf Try.f18) tabR tyR true (cs18 n) lab 1 (st18_1 t1 t3 t4) = o18_1 n (fun t1 t3 t4 t5 => lab 2 (st18_2 t1 t3 t4 t5)) t1 t3 t4 := by kernel_rfl
theorem p18_2 (n : Nat) (lab : Nat → SS → Option (RT.den F18.rs)) (t1 : Tm) (t3 : Bool) (t4 : Bool) (t5 : Int) : F18.at (bodyOf Try.f18) tabR tyR true (cs18 n) lab 2 (st18_2 t1 t3 t4 t5) = o18_2 n (fun t1 t3 t4 t5 => lab 3 (st18_3 t1 t3 t4 t5)) t1 t3 t4 t5 := by kernel_rfl
theorem p18_3 (n : Nat) (lab : Nat → SS → Option (RT.den F18.rs)) (t1 : Tm) (t3 : Bool) (t4 : Bool) (t5 : Int) : F18.at (bodyOf Try.f18) tabR tyR true (cs18 n) lab 3 (st18_3 t1 t3 t4 t5) = o18_3 n (fun t1 t3 t4 t5 => lab 2 (st18_2 t1 t3 t4 t5)) t1 t3 t4 t5 := by kernel_rfl
theorem n18_1 (n : Nat) (rec : Nat → SS → Option (RT.den F18.rs)) (k2 : Tm → Bool → Bool → Int → Option Bool) (h2 : ∀ t1 t3 t4 t5, rec 2 (st18_2 t1 t3 t4 t5) = k2 t1 t3 t4 t5) (d : Nat) (t1 : Tm) (t3 : Bool) (t4 : Bool) : F18.labD (bodyOf Try.f18) tabR tyR true (cs18 n) rec (d + 1) 1 (st18_1 t1 t3 t4) = c18_1 n k2 t1 t3 t4 := by
  have e2 : ∀ t1 t3 t4 t5, F18.labX (bodyOf Try.f18) tabR tyR true (cs18 n) rec d 2 (st18_2 t1 t3 t4 t5) = k2 t1 t3 t4 t5 := fun t1 t3 t4 t5 => (Fn.labX_loop _ _ _ _ _ _ _ _ _ _ (by kernel_rfl)).trans (h2 t1 t3 t4 t5)
  show F18.labD (bodyOf Try.f18) tabR tyR true (cs18 n) rec (d + 1) 1 _ = _
  rw [Fn.labD_succ, p18_1]
  simp only [e2]
  rfl
theorem n18_3 (n : Nat) (rec : Nat → SS → Option (RT.den F18.rs)) (k2 : Tm → Bool → Bool → Int → Option Bool) (h2 : ∀ t1 t3 t4 t5, rec 2 (st18_2 t1 t3 t4 t5) = k2 t1 t3 t4 t5) (d : Nat) (t1 : Tm) (t3 : Bool) (t4 : Bool) (t5 : Int) : F18.labD (bodyOf Try.f18) tabR tyR true (cs18 n) rec (d + 1) 3 (st18_3 t1 t3 t4 t5) = c18_3 n k2 t1 t3 t4 t5 := by
  have e2 : ∀ t1 t3 t4 t5, F18.labX (bodyOf Try.f18) tabR tyR true (cs18 n) rec d 2 (st18_2 t1 t3 t4 t5) = k2 t1 t3 t4 t5 := fun t1 t3 t4 t5 => (Fn.labX_loop _ _ _ _ _ _ _ _ _ _ (by kernel_rfl)).trans (h2 t1 t3 t4 t5)
  show F18.labD (bodyOf Try.f18) tabR tyR true (cs18 n) rec (d + 1) 3 _ = _
  rw [Fn.labD_succ, p18_3]
  simp only [e2]
  rfl
theorem m18_2 (n : Nat) : ∀ m : Nat, (∀ t1 t3 t4 t5, F18.labM (bodyOf Try.f18) tabR tyR true (cs18 n) m 2 (st18_2 t1 t3 t4 t5) = l18_2 n m t1 t3 t4 t5) := by
  intro m
  induction m with
  | zero => exact fun _ _ _ _ => rfl
  | succ m ih =>
    intro t1 t3 t4 t5
    have e3 : ∀ t1 t3 t4 t5, F18.labX (bodyOf Try.f18) tabR tyR true (cs18 n) (F18.labM (bodyOf Try.f18) tabR tyR true (cs18 n) m) 4 3 (st18_3 t1 t3 t4 t5) = c18_3 n (l18_2 n m) t1 t3 t4 t5 := fun t1 t3 t4 t5 => (Fn.labX_step _ _ _ _ _ _ _ _ _ _ (by kernel_rfl)).trans (n18_3 n (F18.labM (bodyOf Try.f18) tabR tyR true (cs18 n) m) (l18_2 n m) ih 3 t1 t3 t4 t5)
    rw [Fn.labM_succ]
    show F18.labD (bodyOf Try.f18) tabR tyR true (cs18 n) (F18.labM (bodyOf Try.f18) tabR tyR true (cs18 n) m) (4 + 1) 2 _ = _
    rw [Fn.labD_succ, p18_2]
    simp only [e3]
    rfl
theorem w18 (n : Nat) (x : PTs.den F18.ps) : F18.body (bodyOf Try.f18) tabR tyR true (cs18 n) (F18.labX (bodyOf Try.f18) tabR tyR true (cs18 n) (F18.labM (bodyOf Try.f18) tabR tyR true (cs18 n) n) F18.D) x = o18_0 n (c18_1 n (l18_2 n n)) x.1 := by
  have e1 : ∀ t1 t3 t4, F18.labX (bodyOf Try.f18) tabR tyR true (cs18 n) (F18.labM (bodyOf Try.f18) tabR tyR true (cs18 n) n) 5 1 (st18_1 t1 t3 t4) = c18_1 n (l18_2 n n) t1 t3 t4 := fun t1 t3 t4 => (Fn.labX_step _ _ _ _ _ _ _ _ _ _ (by kernel_rfl)).trans (n18_1 n (F18.labM (bodyOf Try.f18) tabR tyR true (cs18 n) n) (l18_2 n n) (m18_2 n n) 4 t1 t3 t4)
  show F18.body (bodyOf Try.f18) tabR tyR true (cs18 n) (F18.labX (bodyOf Try.f18) tabR tyR true (cs18 n) (F18.labM (bodyOf Try.f18) tabR tyR true (cs18 n) n) 5) x = _
  rw [p18_0]
  simp only [e1]
  try rfl
theorem call18 : Callable Try.prog 18 := callable_of Try.func18 (by kernel_rfl) (by kernel_rfl)
theorem ok18 (n : Nat) : Cal.Ok Try.prog ⟨18, F18.ps, F18.rs, F18.fr, fun a => f18 n a.1⟩ :=
  cal_of_fn F18 (code := bodyOf Try.f18) Try.func18 (by kernel_rfl) (by kernel_rfl) call18 htabR (cs := cs18 n) (fun c hc => by
      simp only [cs18, List.mem_cons, List.not_mem_nil, or_false] at hc
      rcases hc with rfl | rfl | rfl | rfl | rfl | rfl
      · exact ok61 n
      · exact ok62 n
      · exact ok83 n
      · exact ok84 n
      · exact ok85 n
      · exact ok86 n) (fun _ => mixed) (by kernel_rfl) (by kernel_rfl) (by decide) (fun x => ⟨n, w18 n x⟩)
end Go.Proofs.Yteaglcbnkephgaa
