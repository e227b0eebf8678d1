/-
  What the functions on terms and their copies compute, as plain functions.
-/
import Derived.Test.YtcaahmielncmpaaTypedB
set_option linter.unusedSimpArgs false
set_option linter.unusedVariables false
namespace Go.Proofs.Ytcaahmielncmpaa
open Go Go.RowKit
set_option maxRecDepth 100000
-- tranship/transhipkeep.weigh
def o76_0 (s76 : Tm → Int → Int → Option Int) (n : Nat) (k1 : Int → Int → Tm → Int → Int → Option Int) (a0 : Tm) (a1 : Int) (a2 : Int) : Option Int :=
  ifB (decide (a2 < (0 : Int))) (
    ckI (a1 + (1 : Int)) <|
    some (a1 + (1 : Int))) (
    k1 a1 a2 a0 (1 : Int) (0 : Int))
def o76_1 (s76 : Tm → Int → Int → Option Int) (n : Nat) (k2 : Int → Int → Tm → Int → Int → Option Int) (t1 : Int) (t2 : Int) (t3 : Tm) (t7 : Int) (t8 : Int) : Option Int :=
  ifB (decide (t8 < (t3.kids.length : Int))) (
    ifB (decide (t7 ≤ t1)) (
      k2 t1 t2 t3 t7 t8) (
      some t7)) (
    some t7)
def o76_2 (s76 : Tm → Int → Int → Option Int) (n : Nat) (k1 : Int → Int → Tm → Int → Int → Option Int) (t1 : Int) (t2 : Int) (t3 : Tm) (t7 : Int) (t8 : Int) : Option Int :=
  atI t3.kids t8 fun x1 =>
  ckI (t1 - t7) <|
  ckI (t2 - (1 : Int)) <|
  (s76 x1 (t1 - t7) (t2 - (1 : Int))).bind fun x2 =>
  ckI (t7 + x2) <|
  ckI (t8 + (1 : Int)) <|
  k1 t1 t2 t3 (t7 + x2) (t8 + (1 : Int))
def c76_2 (s76 : Tm → Int → Int → Option Int) (n : Nat) (k1 : Int → Int → Tm → Int → Int → Option Int) (t1 : Int) (t2 : Int) (t3 : Tm) (t7 : Int) (t8 : Int) : Option Int :=
  o76_2 s76 n k1 t1 t2 t3 t7 t8
def l76_1 (s76 : Tm → Int → Int → Option Int) (n : Nat) : Nat → Int → Int → Tm → Int → Int → Option Int
  | 0, _, _, _, _, _ => none
  | m + 1, t1, t2, t3, t7, t8 => o76_1 s76 n (c76_2 s76 n (l76_1 s76 n m)) t1 t2 t3 t7 t8
def f76 : Nat → Tm → Int → Int → Option Int
  | 0, _, _, _ => none
  | n + 1, a0, a1, a2 => o76_0 (f76 n) n (l76_1 (f76 n) n n) a0 a1 a2
def an76 : An := (.n none [] 0 .z (.n none [] 0 .z (.n none [] 0 .z (.n none [] 0 (.n none [] 0 .z (.n none [] 0 (.n (some 1) [(1, .one .c), (2, .one .c), (3, .ps 0 .tm false), (7, .one .c), (8, .one .c)] 1 (.n (some 2) [(1, .one .c), (2, .one .c), (3, .ps 0 .tm false), (7, .one .c), (8, .one .c)] 1 .z .z) .z) .z)) .z))))
def F76 : Fn := { f := 76, a := an76, vars := [.tmp 6], ps := [.st .tm, .sc .int, .sc .int], rs := [.sc .int], own := false, fr := true, nt := 39, D := 4, loops := [1] }
def cs76 (s76 : Tm → Int → Int → Option Int) (n : Nat) : List Cal := [⟨76, [.st .tm, .sc .int, .sc .int], [.sc .int], true, fun a => s76 a.1 a.2.1 a.2.2.1⟩]
def st76_1 (t1 : Int) (t2 : Int) (t3 : Tm) (t7 : Int) (t8 : Int) : SS := ⟨[(1, .v (.one (.c (.int t1) true))), (2, .v (.one (.c (.int t2) true))), (3, .v (.one (.ptr 0 0))), (7, .v (.one (.c (.int t7) true))), (8, .v (.one (.c (.int t8) true)))], [(0, some (.bst .tm t3 false))], 1⟩
def st76_2 (t1 : Int) (t2 : Int) (t3 : Tm) (t7 : Int) (t8 : Int) : SS := ⟨[(1, .v (.one (.c (.int t1) true))), (2, .v (.one (.c (.int t2) true))), (3, .v (.one (.ptr 0 0))), (7, .v (.one (.c (.int t7) true))), (8, .v (.one (.c (.int t8) true)))], [(0, some (.bst .tm t3 false))], 1⟩
theorem p76_0 (s76 : Tm → Int → Int → Option Int) (n : Nat) (lab : Nat → SS → Option (RT.den F76.rs)) (x : PTs.den F76.ps) : F76.body (bodyOf Try.f76) tabR tyR true (cs76 s76 n) lab x = o76_0 s76 n (fun t1 t2 t3 t7 t8 => lab 1 (st76_1 t1 t2 t3 t7 t8)) x.1 x.2.1 x.2.2.1 := by kernel_rfl
theorem p76_1 (s76 : Tm → Int → Int → Option Int) (n : Nat) (lab : Nat → SS → Option (RT.den F76.rs)) (t1 : Int) (t2 : Int) (t3 : Tm) (t7 : Int) (t8 : Int) : F76.at (bodyOf Try.f76) tabR tyR true (cs76 s76 n) lab 1 (st76_1 t1 t2 t3 t7 t8) = o76_1 s76 n (fun t1 t2 t3 t7 t8 => lab 2 (st76_2 t1 t2 t3 t7 t8)) t1 t2 t3 t7 t8 := by kernel_rfl
theorem p76_2 (s76 : Tm → Int → Int → Option Int) (n : Nat) (lab : Nat → SS → Option (RT.den F76.rs)) (t1 : Int) (t2 : Int) (t3 : Tm) (t7 : Int) (t8 : Int) : F76.at (bodyOf Try.f76) tabR tyR true (cs76 s76 n) lab 2 (st76_2 t1 t2 t3 t7 t8) = o76_2 s76 n (fun t1 t2 t3 t7 t8 => lab 1 (st76_1 t1 t2 t3 t7 t8)) t1 t2 t3 t7 t8 := by kernel_rfl
theorem n76_2 (s76 : Tm → Int → Int → Option Int) (n : Nat) (rec : Nat → SS → Option (RT.den F76.rs)) (k1 : Int → Int → Tm → Int → Int → Option Int) (h1 : ∀ t1 t2 t3 t7 t8, rec 1 (st76_1 t1 t2 t3 t7 t8) = k1 t1 t2 t3 t7 t8) (d : Nat) (t1 : Int) (t2 : Int) (t3 : Tm) (t7 : Int) (t8 : Int) : F76.labD (bodyOf Try.f76) tabR tyR true (cs76 s76 n) rec (d + 1) 2 (st76_2 t1 t2 t3 t7 t8) = c76_2 s76 n k1 t1 t2 t3 t7 t8 := by
  have e1 : ∀ t1 t2 t3 t7 t8, F76.labX (bodyOf Try.f76) tabR tyR true (cs76 s76 n) rec d 1 (st76_1 t1 t2 t3 t7 t8) = k1 t1 t2 t3 t7 t8 := fun t1 t2 t3 t7 t8 => (Fn.labX_loop _ _ _ _ _ _ _ _ _ _ (by kernel_rfl)).trans (h1 t1 t2 t3 t7 t8)
  show F76.labD (bodyOf Try.f76) tabR tyR true (cs76 s76 n) rec (d + 1) 2 _ = _
  rw [Fn.labD_succ, p76_2]
  simp only [e1]
  rfl
theorem m76_1 (s76 : Tm → Int → Int → Option Int) (n : Nat) : ∀ m : Nat, (∀ t1 t2 t3 t7 t8, F76.labM (bodyOf Try.f76) tabR tyR true (cs76 s76 n) m 1 (st76_1 t1 t2 t3 t7 t8) = l76_1 s76 n m t1 t2 t3 t7 t8) := by
  intro m
  induction m with
  | zero => exact fun _ _ _ _ _ => rfl
  | succ m ih =>
    intro t1 t2 t3 t7 t8
    have e2 : ∀ t1 t2 t3 t7 t8, F76.labX (bodyOf Try.f76) tabR tyR true (cs76 s76 n) (F76.labM (bodyOf Try.f76) tabR tyR true (cs76 s76 n) m) 3 2 (st76_2 t1 t2 t3 t7 t8) = c76_2 s76 n (l76_1 s76 n m) t1 t2 t3 t7 t8 := fun t1 t2 t3 t7 t8 => (Fn.labX_step _ _ _ _ _ _ _ _ _ _ (by kernel_rfl)).trans (n76_2 s76 n (F76.labM (bodyOf Try.f76) tabR tyR true (cs76 s76 n) m) (l76_1 s76 n m) ih 2 t1 t2 t3 t7 t8)
    rw [Fn.labM_succ]
    show F76.labD (bodyOf Try.f76) tabR tyR true (cs76 s76 n) (F76.labM (bodyOf Try.f76) tabR tyR true (cs76 s76 n) m) (3 + 1) 1 _ = _
    rw [Fn.labD_succ, p76_1]
    simp only [e2]
    rfl
theorem w76 (s76 : Tm → Int → Int → Option Int) (n : Nat) (x : PTs.den F76.ps) : F76.body (bodyOf Try.f76) tabR tyR true (cs76 s76 n) (F76.labX (bodyOf Try.f76) tabR tyR true (cs76 s76 n) (F76.labM (bodyOf Try.f76) tabR tyR true (cs76 s76 n) n) F76.D) x = o76_0 s76 n (l76_1 s76 n n) x.1 x.2.1 x.2.2.1 := by
  have e1 : ∀ t1 t2 t3 t7 t8, F76.labX (bodyOf Try.f76) tabR tyR true (cs76 s76 n) (F76.labM (bodyOf Try.f76) tabR tyR true (cs76 s76 n) n) 4 1 (st76_1 t1 t2 t3 t7 t8) = (l76_1 s76 n n) t1 t2 t3 t7 t8 := fun t1 t2 t3 t7 t8 => (Fn.labX_loop _ _ _ _ _ _ _ _ _ _ (by kernel_rfl)).trans ((m76_1 s76 n n) t1 t2 t3 t7 t8)
  show F76.body (bodyOf Try.f76) tabR tyR true (cs76 s76 n) (F76.labX (bodyOf Try.f76) tabR tyR true (cs76 s76 n) (F76.labM (bodyOf Try.f76) tabR tyR true (cs76 s76 n) n) 4) x = _
  rw [p76_0]
  simp only [e1]
  try rfl
theorem call76 : Callable Try.prog 76 := callable_of Try.func76 (by kernel_rfl) (by kernel_rfl)
theorem okr76 : ∀ n : Nat, Cal.Ok Try.prog ⟨76, F76.ps, F76.rs, F76.fr, fun a => f76 n a.1 a.2.1 a.2.2.1⟩
  | 0 => ⟨by kernel_rfl, fun a r h => by cases h⟩
  | n + 1 => cal_of_fn F76 (code := bodyOf Try.f76) Try.func76 (by kernel_rfl) (by kernel_rfl) call76 htabR (cs := cs76 (f76 n) n) (fun c hc => by
      simp only [cs76, List.mem_cons, List.not_mem_nil, or_false] at hc
      rcases hc with rfl
      · exact (okr76 n)) (fun _ => mixed) (by kernel_rfl) (by kernel_rfl) (by decide) (fun x => ⟨n, w76 (f76 n) n x⟩)
theorem ok76 (n : Nat) : Cal.Ok Try.prog ⟨76, F76.ps, F76.rs, F76.fr, fun a => f76 n a.1 a.2.1 a.2.2.1⟩ := (okr76 n)
-- tranship/transhipkeep.Great
def o19_0 (n : Nat) (a0 : Tm) (a1 : Int) : Option Bool :=
  (f76 n a0 a1 (200 : Int)).bind fun x1 =>
  some (decide (a1 < x1))
def f19 (n : Nat) (a0 : Tm) (a1 : Int) : Option Bool := o19_0 n a0 a1
def an19 : An := .z
def F19 : Fn := { f := 19, a := an19, vars := [.tmp 4], ps := [.st .tm, .sc .int], rs := [.sc .bool], own := false, fr := true, nt := 10, D := 2, loops := [] }
def cs19 (n : Nat) : List Cal := [⟨76, [.st .tm, .sc .int, .sc .int], [.sc .int], true, fun a => f76 n a.1 a.2.1 a.2.2.1⟩]
theorem p19_0 (n : Nat) (lab : Nat → SS → Option (RT.den F19.rs)) (x : PTs.den F19.ps) : F19.body (bodyOf Try.f19) tabR tyR true (cs19 n) lab x = o19_0 n x.1 x.2.1 := by kernel_rfl
theorem w19 (n : Nat) (x : PTs.den F19.ps) : F19.body (bodyOf Try.f19) tabR tyR true (cs19 n) (F19.labX (bodyOf Try.f19) tabR tyR true (cs19 n) (F19.labM (bodyOf Try.f19) tabR tyR true (cs19 n) 0) F19.D) x = o19_0 n x.1 x.2.1 := by
  show F19.body (bodyOf Try.f19) tabR tyR true (cs19 n) (F19.labX (bodyOf Try.f19) tabR tyR true (cs19 n) (F19.labM (bodyOf Try.f19) tabR tyR true (cs19 n) 0) 2) x = _
  rw [p19_0]
theorem call19 : Callable Try.prog 19 := callable_of Try.func19 (by kernel_rfl) (by kernel_rfl)
theorem ok19 (n : Nat) : Cal.Ok Try.prog ⟨19, F19.ps, F19.rs, F19.fr, fun a => f19 n a.1 a.2.1⟩ :=
  cal_of_fn F19 (code := bodyOf Try.f19) Try.func19 (by kernel_rfl) (by kernel_rfl) call19 htabR (cs := cs19 n) (fun c hc => by
      simp only [cs19, List.mem_cons, List.not_mem_nil, or_false] at hc
      rcases hc with rfl
      · exact ok76 n) (fun _ => mixed) (by kernel_rfl) (by kernel_rfl) (by decide) (fun x => ⟨0, w19 n x⟩)
-- tranship/transhipref04.Kids
def o124_0 (k1 : Int → Int → Bool → Option Int) (a0 : Int) (a1 : Int) : Option Int :=
  ifB (decide (a0 = (1 : Int))) (
    k1 a1 a0 (decide (a0 = (1 : Int)))) (
    k1 a1 a0 (decide (a0 = (2 : Int))))
def o124_1 (k2 : Int → Int → Bool → Option Int) (t1 : Int) (t6 : Int) (t7 : Bool) : Option Int :=
  ifB t7 (
    some (0 : Int)) (
    ifB (decide (t6 = (18 : Int))) (
      k2 t1 t6 (decide (t6 = (18 : Int)))) (
      k2 t1 t6 (decide (t6 = (19 : Int)))))
def o124_2 (k3 : Int → Int → Bool → Option Int) (t1 : Int) (t6 : Int) (t10 : Bool) : Option Int :=
  ifB t10 (
    some (1 : Int)) (
    ifB (decide (t6 = (3 : Int))) (
      k3 t1 t6 (decide (t6 = (3 : Int)))) (
      ifB (decide (t6 = (6 : Int))) (
        k3 t1 t6 (decide (t6 = (6 : Int)))) (
        ifB (decide (t6 = (13 : Int))) (
          k3 t1 t6 (decide (t6 = (13 : Int)))) (
          ifB (decide (t6 = (14 : Int))) (
            k3 t1 t6 (decide (t6 = (14 : Int)))) (
            ifB (decide (t6 = (15 : Int))) (
              k3 t1 t6 (decide (t6 = (15 : Int)))) (
              ifB (decide (t6 = (16 : Int))) (
                k3 t1 t6 (decide (t6 = (16 : Int)))) (
                ifB (decide (t6 = (21 : Int))) (
                  k3 t1 t6 (decide (t6 = (21 : Int)))) (
                  k3 t1 t6 (decide (t6 = (11 : Int)))))))))))
def o124_3 (k4 : Int → Int → Bool → Option Int) (t1 : Int) (t6 : Int) (t13 : Bool) : Option Int :=
  ifB t13 (
    some (2 : Int)) (
    ifB (decide (t6 = (4 : Int))) (
      k4 t1 t6 (decide (t6 = (4 : Int)))) (
      ifB (decide (t6 = (8 : Int))) (
        k4 t1 t6 (decide (t6 = (8 : Int)))) (
        ifB (decide (t6 = (9 : Int))) (
          k4 t1 t6 (decide (t6 = (9 : Int)))) (
          ifB (decide (t6 = (10 : Int))) (
            k4 t1 t6 (decide (t6 = (10 : Int)))) (
            k4 t1 t6 (decide (t6 = (20 : Int))))))))
def o124_4 (k5 : Int → Int → Bool → Option Int) (t1 : Int) (t6 : Int) (t22 : Bool) : Option Int :=
  ifB t22 (
    some (3 : Int)) (
    ifB (decide (t6 = (5 : Int))) (
      k5 t1 t6 (decide (t6 = (5 : Int)))) (
      ifB (decide (t6 = (7 : Int))) (
        k5 t1 t6 (decide (t6 = (7 : Int)))) (
        ifB (decide (t6 = (12 : Int))) (
          k5 t1 t6 (decide (t6 = (12 : Int)))) (
          k5 t1 t6 (decide (t6 = (17 : Int)))))))
def o124_5 (k6 : Int → (List Int) → Bool → Option Int) (t1 : Int) (t6 : Int) (t28 : Bool) : Option Int :=
  ifB t28 (
    some (4 : Int)) (
    ifB (decide (t6 = (22 : Int))) (
      some (6 : Int)) (
      ifB (decide (t6 = (23 : Int))) (
        ifB (decide ((1 : Int) ≤ t1)) (
          k6 t1 [(5 : Int), (5 : Int), (4 : Int), (6 : Int), (4 : Int), (4 : Int), (5 : Int), (4 : Int), (5 : Int), (4 : Int), (4 : Int), (6 : Int), (6 : Int), (6 : Int), (9 : Int), (12 : Int), (12 : Int), (9 : Int), (9 : Int), (9 : Int), (6 : Int)] (decide (t1 ≤ ([(5 : Int), (5 : Int), (4 : Int), (6 : Int), (4 : Int), (4 : Int), (5 : Int), (4 : Int), (5 : Int), (4 : Int), (4 : Int), (6 : Int), (6 : Int), (6 : Int), (9 : Int), (12 : Int), (12 : Int), (9 : Int), (9 : Int), (9 : Int), (6 : Int)].length : Int)))) (
          k6 t1 [(5 : Int), (5 : Int), (4 : Int), (6 : Int), (4 : Int), (4 : Int), (5 : Int), (4 : Int), (5 : Int), (4 : Int), (4 : Int), (6 : Int), (6 : Int), (6 : Int), (9 : Int), (12 : Int), (12 : Int), (9 : Int), (9 : Int), (9 : Int), (6 : Int)] false)) (
        some (-1 : Int))))
def o124_6 (t1 : Int) (t5 : List Int) (t45 : Bool) : Option Int :=
  ifB t45 (
    ckI (t1 - (1 : Int)) <|
    ckB (decide (0 ≤ (t1 - (1 : Int))) && decide ((t1 - (1 : Int)) < t5.length)) <|
    atN t5 (t1 - (1 : Int)).toNat fun x1 =>
    some x1) (
    some (-1 : Int))
def c124_6 (t1 : Int) (t5 : List Int) (t45 : Bool) : Option Int :=
  o124_6 t1 t5 t45
def c124_5 (t1 : Int) (t6 : Int) (t28 : Bool) : Option Int :=
  o124_5 (c124_6) t1 t6 t28
def c124_4 (t1 : Int) (t6 : Int) (t22 : Bool) : Option Int :=
  o124_4 (c124_5) t1 t6 t22
def c124_3 (t1 : Int) (t6 : Int) (t13 : Bool) : Option Int :=
  o124_3 (c124_4) t1 t6 t13
def c124_2 (t1 : Int) (t6 : Int) (t10 : Bool) : Option Int :=
  o124_2 (c124_3) t1 t6 t10
def c124_1 (t1 : Int) (t6 : Int) (t7 : Bool) : Option Int :=
  o124_1 (c124_2) t1 t6 t7
def f124 (a0 : Int) (a1 : Int) : Option Int := o124_0 (c124_1) a0 a1
def an124 : An := (.n none [] 0 .z (.n none [] 0 (.n none [] 0 .z (.n none [] 0 (.n (some 1) [(1, .one .c), (6, .one .c), (7, .one .c)] 0 .z (.n none [] 0 .z (.n (some 2) [(1, .one .c), (6, .one .c), (10, .one .c)] 0 .z (.n none [] 0 .z (.n (some 3) [(1, .one .c), (6, .one .c), (13, .one .c)] 0 .z (.n none [] 0 .z (.n (some 4) [(1, .one .c), (6, .one .c), (22, .one .c)] 0 .z (.n none [] 0 .z (.n (some 5) [(1, .one .c), (6, .one .c), (28, .one .c)] 0 .z (.n none [] 0 .z (.n none [] 0 .z (.n none [] 0 .z (.n none [] 0 .z (.n none [] 0 (.n none [] 0 .z (.n (some 6) [(1, .one .c), (5, .one (.r 0 3 .int true)), (45, .one .c)] 1 .z .z)) .z)))))))))))))) .z)) .z))
def F124 : Fn := { f := 124, a := an124, vars := [.tmp 4], ps := [.sc .int, .sc .int], rs := [.sc .int], own := false, fr := true, nt := 51, D := 8, loops := [] }
def cs124 : List Cal := []
def st124_1 (t1 : Int) (t6 : Int) (t7 : Bool) : SS := ⟨[(1, .v (.one (.c (.int t1) true))), (6, .v (.one (.c (.int t6) true))), (7, .v (.one (.c (.bool t7) true)))], [], 0⟩
def st124_2 (t1 : Int) (t6 : Int) (t10 : Bool) : SS := ⟨[(1, .v (.one (.c (.int t1) true))), (6, .v (.one (.c (.int t6) true))), (10, .v (.one (.c (.bool t10) true)))], [], 0⟩
def st124_3 (t1 : Int) (t6 : Int) (t13 : Bool) : SS := ⟨[(1, .v (.one (.c (.int t1) true))), (6, .v (.one (.c (.int t6) true))), (13, .v (.one (.c (.bool t13) true)))], [], 0⟩
def st124_4 (t1 : Int) (t6 : Int) (t22 : Bool) : SS := ⟨[(1, .v (.one (.c (.int t1) true))), (6, .v (.one (.c (.int t6) true))), (22, .v (.one (.c (.bool t22) true)))], [], 0⟩
def st124_5 (t1 : Int) (t6 : Int) (t28 : Bool) : SS := ⟨[(1, .v (.one (.c (.int t1) true))), (6, .v (.one (.c (.int t6) true))), (28, .v (.one (.c (.bool t28) true)))], [], 0⟩
def st124_6 (t1 : Int) (t5 : List Int) (t45 : Bool) : SS := ⟨[(1, .v (.one (.c (.int t1) true))), (5, .v (.one (.arr 0))), (45, .v (.one (.c (.bool t45) true)))], [(0, some (.row 3 .int t5 true))], 1⟩
theorem p124_0 (lab : Nat → SS → Option (RT.den F124.rs)) (x : PTs.den F124.ps) : F124.body (bodyOf Try.f124) tabR tyR true cs124 lab x = o124_0 (fun t1 t6 t7 => lab 1 (st124_1 t1 t6 t7)) x.1 x.2.1 := by kernel_rfl
theorem p124_1 (lab : Nat → SS → Option (RT.den F124.rs)) (t1 : Int) (t6 : Int) (t7 : Bool) : F124.at (bodyOf Try.f124) tabR tyR true cs124 lab 1 (st124_1 t1 t6 t7) = o124_1 (fun t1 t6 t10 => lab 2 (st124_2 t1 t6 t10)) t1 t6 t7 := by kernel_rfl
theorem p124_2 (lab : Nat → SS → Option (RT.den F124.rs)) (t1 : Int) (t6 : Int) (t10 : Bool) : F124.at (bodyOf Try.f124) tabR tyR true cs124 lab 2 (st124_2 t1 t6 t10) = o124_2 (fun t1 t6 t13 => lab 3 (st124_3 t1 t6 t13)) t1 t6 t10 := by kernel_rfl
theorem p124_3 (lab : Nat → SS → Option (RT.den F124.rs)) (t1 : Int) (t6 : Int) (t13 : Bool) : F124.at (bodyOf Try.f124) tabR tyR true cs124 lab 3 (st124_3 t1 t6 t13) = o124_3 (fun t1 t6 t22 => lab 4 (st124_4 t1 t6 t22)) t1 t6 t13 := by kernel_rfl
theorem p124_4 (lab : Nat → SS → Option (RT.den F124.rs)) (t1 : Int) (t6 : Int) (t22 : Bool) : F124.at (bodyOf Try.f124) tabR tyR true cs124 lab 4 (st124_4 t1 t6 t22) = o124_4 (fun t1 t6 t28 => lab 5 (st124_5 t1 t6 t28)) t1 t6 t22 := by kernel_rfl
theorem p124_5 (lab : Nat → SS → Option (RT.den F124.rs)) (t1 : Int) (t6 : Int) (t28 : Bool) : F124.at (bodyOf Try.f124) tabR tyR true cs124 lab 5 (st124_5 t1 t6 t28) = o124_5 (fun t1 t5 t45 => lab 6 (st124_6 t1 t5 t45)) t1 t6 t28 := by kernel_rfl
theorem p124_6 (lab : Nat → SS → Option (RT.den F124.rs)) (t1 : Int) (t5 : List Int) (t45 : Bool) : F124.at (bodyOf Try.f124) tabR tyR true cs124 lab 6 (st124_6 t1 t5 t45) = o124_6 t1 t5 t45 := by kernel_rfl
theorem n124_6 (rec : Nat → SS → Option (RT.den F124.rs)) (d : Nat) (t1 : Int) (t5 : List Int) (t45 : Bool) : F124.labD (bodyOf Try.f124) tabR tyR true cs124 rec (d + 1) 6 (st124_6 t1 t5 t45) = c124_6 t1 t5 t45 := by
  show F124.labD (bodyOf Try.f124) tabR tyR true cs124 rec (d + 1) 6 _ = _
  rw [Fn.labD_succ, p124_6]
  rfl
theorem n124_5 (rec : Nat → SS → Option (RT.den F124.rs)) (d : Nat) (t1 : Int) (t6 : Int) (t28 : Bool) : F124.labD (bodyOf Try.f124) tabR tyR true cs124 rec (d + 2) 5 (st124_5 t1 t6 t28) = c124_5 t1 t6 t28 := by
  have e6 : ∀ t1 t5 t45, F124.labX (bodyOf Try.f124) tabR tyR true cs124 rec (d + 1) 6 (st124_6 t1 t5 t45) = c124_6 t1 t5 t45 := fun t1 t5 t45 => (Fn.labX_step _ _ _ _ _ _ _ _ _ _ (by kernel_rfl)).trans (n124_6 rec d t1 t5 t45)
  show F124.labD (bodyOf Try.f124) tabR tyR true cs124 rec ((d + 1) + 1) 5 _ = _
  rw [Fn.labD_succ, p124_5]
  simp only [e6]
  rfl
theorem n124_4 (rec : Nat → SS → Option (RT.den F124.rs)) (d : Nat) (t1 : Int) (t6 : Int) (t22 : Bool) : F124.labD (bodyOf Try.f124) tabR tyR true cs124 rec (d + 3) 4 (st124_4 t1 t6 t22) = c124_4 t1 t6 t22 := by
  have e5 : ∀ t1 t6 t28, F124.labX (bodyOf Try.f124) tabR tyR true cs124 rec (d + 2) 5 (st124_5 t1 t6 t28) = c124_5 t1 t6 t28 := fun t1 t6 t28 => (Fn.labX_step _ _ _ _ _ _ _ _ _ _ (by kernel_rfl)).trans (n124_5 rec d t1 t6 t28)
  show F124.labD (bodyOf Try.f124) tabR tyR true cs124 rec ((d + 2) + 1) 4 _ = _
  rw [Fn.labD_succ, p124_4]
  simp only [e5]
  rfl
theorem n124_3 (rec : Nat → SS → Option (RT.den F124.rs)) (d : Nat) (t1 : Int) (t6 : Int) (t13 : Bool) : F124.labD (bodyOf Try.f124) tabR tyR true cs124 rec (d + 4) 3 (st124_3 t1 t6 t13) = c124_3 t1 t6 t13 := by
  have e4 : ∀ t1 t6 t22, F124.labX (bodyOf Try.f124) tabR tyR true cs124 rec (d + 3) 4 (st124_4 t1 t6 t22) = c124_4 t1 t6 t22 := fun t1 t6 t22 => (Fn.labX_step _ _ _ _ _ _ _ _ _ _ (by kernel_rfl)).trans (n124_4 rec d t1 t6 t22)
  show F124.labD (bodyOf Try.f124) tabR tyR true cs124 rec ((d + 3) + 1) 3 _ = _
  rw [Fn.labD_succ, p124_3]
  simp only [e4]
  rfl
theorem n124_2 (rec : Nat → SS → Option (RT.den F124.rs)) (d : Nat) (t1 : Int) (t6 : Int) (t10 : Bool) : F124.labD (bodyOf Try.f124) tabR tyR true cs124 rec (d + 5) 2 (st124_2 t1 t6 t10) = c124_2 t1 t6 t10 := by
  have e3 : ∀ t1 t6 t13, F124.labX (bodyOf Try.f124) tabR tyR true cs124 rec (d + 4) 3 (st124_3 t1 t6 t13) = c124_3 t1 t6 t13 := fun t1 t6 t13 => (Fn.labX_step _ _ _ _ _ _ _ _ _ _ (by kernel_rfl)).trans (n124_3 rec d t1 t6 t13)
  show F124.labD (bodyOf Try.f124) tabR tyR true cs124 rec ((d + 4) + 1) 2 _ = _
  rw [Fn.labD_succ, p124_2]
  simp only [e3]
  rfl
theorem n124_1 (rec : Nat → SS → Option (RT.den F124.rs)) (d : Nat) (t1 : Int) (t6 : Int) (t7 : Bool) : F124.labD (bodyOf Try.f124) tabR tyR true cs124 rec (d + 6) 1 (st124_1 t1 t6 t7) = c124_1 t1 t6 t7 := by
  have e2 : ∀ t1 t6 t10, F124.labX (bodyOf Try.f124) tabR tyR true cs124 rec (d + 5) 2 (st124_2 t1 t6 t10) = c124_2 t1 t6 t10 := fun t1 t6 t10 => (Fn.labX_step _ _ _ _ _ _ _ _ _ _ (by kernel_rfl)).trans (n124_2 rec d t1 t6 t10)
  show F124.labD (bodyOf Try.f124) tabR tyR true cs124 rec ((d + 5) + 1) 1 _ = _
  rw [Fn.labD_succ, p124_1]
  simp only [e2]
  rfl
theorem w124 (x : PTs.den F124.ps) : F124.body (bodyOf Try.f124) tabR tyR true cs124 (F124.labX (bodyOf Try.f124) tabR tyR true cs124 (F124.labM (bodyOf Try.f124) tabR tyR true cs124 0) F124.D) x = o124_0 (c124_1) x.1 x.2.1 := by
  have e1 : ∀ t1 t6 t7, F124.labX (bodyOf Try.f124) tabR tyR true cs124 (F124.labM (bodyOf Try.f124) tabR tyR true cs124 0) 8 1 (st124_1 t1 t6 t7) = c124_1 t1 t6 t7 := fun t1 t6 t7 => (Fn.labX_step _ _ _ _ _ _ _ _ _ _ (by kernel_rfl)).trans (n124_1 (F124.labM (bodyOf Try.f124) tabR tyR true cs124 0) 2 t1 t6 t7)
  show F124.body (bodyOf Try.f124) tabR tyR true cs124 (F124.labX (bodyOf Try.f124) tabR tyR true cs124 (F124.labM (bodyOf Try.f124) tabR tyR true cs124 0) 8) x = _
  rw [p124_0]
  simp only [e1]
  try rfl
theorem call124 : Callable Try.prog 124 := callable_of Try.func124 (by kernel_rfl) (by kernel_rfl)
theorem ok124 : Cal.Ok Try.prog ⟨124, F124.ps, F124.rs, F124.fr, fun a => f124 a.1 a.2.1⟩ :=
  cal_of_fn F124 (code := bodyOf Try.f124) Try.func124 (by kernel_rfl) (by kernel_rfl) call124 htabR (cs := cs124) (fun c hc => by simp only [cs124, List.not_mem_nil] at hc) (fun _ => mixed) (by kernel_rfl) (by kernel_rfl) (by decide) (fun x => ⟨0, w124 x⟩)
-- tranship/transhipref04.level
def o152_0 (a0 : Int) : Option Bool :=
  ifB (decide ((0 : Int) ≤ a0)) (
    some (decide (a0 ≤ (1000 : Int)))) (
    some false)
def f152 (a0 : Int) : Option Bool := o152_0 a0
def an152 : An := .z
def F152 : Fn := { f := 152, a := an152, vars := [.tmp 2], ps := [.sc .int], rs := [.sc .bool], own := false, fr := true, nt := 9, D := 2, loops := [] }
def cs152 : List Cal := []
theorem p152_0 (lab : Nat → SS → Option (RT.den F152.rs)) (x : PTs.den F152.ps) : F152.body (bodyOf Try.f152) tabR tyR true cs152 lab x = o152_0 x.1 := by kernel_rfl
theorem w152 (x : PTs.den F152.ps) : F152.body (bodyOf Try.f152) tabR tyR true cs152 (F152.labX (bodyOf Try.f152) tabR tyR true cs152 (F152.labM (bodyOf Try.f152) tabR tyR true cs152 0) F152.D) x = o152_0 x.1 := by
  show F152.body (bodyOf Try.f152) tabR tyR true cs152 (F152.labX (bodyOf Try.f152) tabR tyR true cs152 (F152.labM (bodyOf Try.f152) tabR tyR true cs152 0) 2) x = _
  rw [p152_0]
theorem call152 : Callable Try.prog 152 := callable_of Try.func152 (by kernel_rfl) (by kernel_rfl)
theorem ok152 : Cal.Ok Try.prog ⟨152, F152.ps, F152.rs, F152.fr, fun a => f152 a.1⟩ :=
  cal_of_fn F152 (code := bodyOf Try.f152) Try.func152 (by kernel_rfl) (by kernel_rfl) call152 htabR (cs := cs152) (fun c hc => by simp only [cs152, List.not_mem_nil] at hc) (fun _ => mixed) (by kernel_rfl) (by kernel_rfl) (by decide) (fun x => ⟨0, w152 x⟩)
-- tranship/transhipref04.numbers
def o125_0 (k1 : Tm → Int → Bool → Option Bool) (a0 : Tm) : Option Bool :=
  ifB (decide (a0.kind = (2 : Int))) (
    ifB (decide ((0 : Int) ≤ a0.i)) (
      ifB (decide (a0.i ≤ (2147483647 : Int))) (
        ifB (decide (a0.j = (0 : Int))) (
          some (decide (a0.n = (0 : Int)))) (
          some false)) (
        some false)) (
      some false)) (
    ifB (decide (a0.kind = (3 : Int))) (
      k1 a0 a0.kind (decide (a0.kind = (3 : Int)))) (
      ifB (decide (a0.kind = (4 : Int))) (
        k1 a0 a0.kind (decide (a0.kind = (4 : Int)))) (
        ifB (decide (a0.kind = (5 : Int))) (
          k1 a0 a0.kind (decide (a0.kind = (5 : Int)))) (
          ifB (decide (a0.kind = (6 : Int))) (
            k1 a0 a0.kind (decide (a0.kind = (6 : Int)))) (
            ifB (decide (a0.kind = (7 : Int))) (
              k1 a0 a0.kind (decide (a0.kind = (7 : Int)))) (
              ifB (decide (a0.kind = (8 : Int))) (
                k1 a0 a0.kind (decide (a0.kind = (8 : Int)))) (
                k1 a0 a0.kind (decide (a0.kind = (9 : Int))))))))))
def o125_1 (k2 : Tm → Int → Bool → Option Bool) (t1 : Tm) (t4 : Int) (t25 : Bool) : Option Bool :=
  ifB t25 (
    (f152 t1.i).bind fun x1 =>
    ifB x1 (
      (f152 t1.j).bind fun x2 =>
      ifB x2 (
        some (decide (t1.n = (0 : Int)))) (
        some false)) (
      some false)) (
    ifB (decide (t4 = (1 : Int))) (
      k2 t1 t4 (decide (t4 = (1 : Int)))) (
      ifB (decide (t4 = (10 : Int))) (
        k2 t1 t4 (decide (t4 = (10 : Int)))) (
        ifB (decide (t4 = (11 : Int))) (
          k2 t1 t4 (decide (t4 = (11 : Int)))) (
          k2 t1 t4 (decide (t4 = (12 : Int)))))))
def o125_2 (t1 : Tm) (t4 : Int) (t46 : Bool) : Option Bool :=
  ifB t46 (
    (f152 t1.i).bind fun x3 =>
    ifB x3 (
      ifB (decide (t1.j = (0 : Int))) (
        some (decide (t1.n = (0 : Int)))) (
        some false)) (
      some false)) (
    ifB (decide (t4 = (23 : Int))) (
      (f152 t1.i).bind fun x4 =>
      ifB x4 (
        (f152 t1.j).bind fun x5 =>
        some x5) (
        some false)) (
      ifB (decide (t1.i = (0 : Int))) (
        ifB (decide (t1.j = (0 : Int))) (
          some (decide (t1.n = (0 : Int)))) (
          some false)) (
        some false)))
def c125_2 (t1 : Tm) (t4 : Int) (t46 : Bool) : Option Bool :=
  o125_2 t1 t4 t46
def c125_1 (t1 : Tm) (t4 : Int) (t25 : Bool) : Option Bool :=
  o125_1 (c125_2) t1 t4 t25
def f125 (a0 : Tm) : Option Bool := o125_0 (c125_1) a0
def an125 : An := (.n none [] 0 .z (.n none [] 0 (.n none [] 0 .z (.n none [] 0 (.n none [] 0 .z (.n none [] 0 .z (.n (some 1) [(1, .ps 0 .tm false), (4, .one .c), (25, .one .c)] 1 .z (.n none [] 0 .z (.n (some 2) [(1, .ps 0 .tm false), (4, .one .c), (46, .one .c)] 1 .z .z))))) .z)) .z))
def F125 : Fn := { f := 125, a := an125, vars := [.tmp 2], ps := [.st .tm], rs := [.sc .bool], own := false, fr := true, nt := 87, D := 4, loops := [] }
def cs125 : List Cal := [⟨152, [.sc .int], [.sc .bool], true, fun a => f152 a.1⟩]
def st125_1 (t1 : Tm) (t4 : Int) (t25 : Bool) : SS := ⟨[(1, .v (.one (.ptr 0 0))), (4, .v (.one (.c (.int t4) true))), (25, .v (.one (.c (.bool t25) true)))], [(0, some (.bst .tm t1 false))], 1⟩
def st125_2 (t1 : Tm) (t4 : Int) (t46 : Bool) : SS := ⟨[(1, .v (.one (.ptr 0 0))), (4, .v (.one (.c (.int t4) true))), (46, .v (.one (.c (.bool t46) true)))], [(0, some (.bst .tm t1 false))], 1⟩
theorem p125_0 (lab : Nat → SS → Option (RT.den F125.rs)) (x : PTs.den F125.ps) : F125.body (bodyOf Try.f125) tabR tyR true cs125 lab x = o125_0 (fun t1 t4 t25 => lab 1 (st125_1 t1 t4 t25)) x.1 := by kernel_rfl
theorem p125_1 (lab : Nat → SS → Option (RT.den F125.rs)) (t1 : Tm) (t4 : Int) (t25 : Bool) : F125.at (bodyOf Try.f125) tabR tyR true cs125 lab 1 (st125_1 t1 t4 t25) = o125_1 (fun t1 t4 t46 => lab 2 (st125_2 t1 t4 t46)) t1 t4 t25 := by kernel_rfl
theorem p125_2 (lab : Nat → SS → Option (RT.den F125.rs)) (t1 : Tm) (t4 : Int) (t46 : Bool) : F125.at (bodyOf Try.f125) tabR tyR true cs125 lab 2 (st125_2 t1 t4 t46) = o125_2 t1 t4 t46 := by kernel_rfl
theorem n125_2 (rec : Nat → SS → Option (RT.den F125.rs)) (d : Nat) (t1 : Tm) (t4 : Int) (t46 : Bool) : F125.labD (bodyOf Try.f125) tabR tyR true cs125 rec (d + 1) 2 (st125_2 t1 t4 t46) = c125_2 t1 t4 t46 := by
  show F125.labD (bodyOf Try.f125) tabR tyR true cs125 rec (d + 1) 2 _ = _
  rw [Fn.labD_succ, p125_2]
  rfl
theorem n125_1 (rec : Nat → SS → Option (RT.den F125.rs)) (d : Nat) (t1 : Tm) (t4 : Int) (t25 : Bool) : F125.labD (bodyOf Try.f125) tabR tyR true cs125 rec (d + 2) 1 (st125_1 t1 t4 t25) = c125_1 t1 t4 t25 := by
  have e2 : ∀ t1 t4 t46, F125.labX (bodyOf Try.f125) tabR tyR true cs125 rec (d + 1) 2 (st125_2 t1 t4 t46) = c125_2 t1 t4 t46 := fun t1 t4 t46 => (Fn.labX_step _ _ _ _ _ _ _ _ _ _ (by kernel_rfl)).trans (n125_2 rec d t1 t4 t46)
  show F125.labD (bodyOf Try.f125) tabR tyR true cs125 rec ((d + 1) + 1) 1 _ = _
  rw [Fn.labD_succ, p125_1]
  simp only [e2]
  rfl
theorem w125 (x : PTs.den F125.ps) : F125.body (bodyOf Try.f125) tabR tyR true cs125 (F125.labX (bodyOf Try.f125) tabR tyR true cs125 (F125.labM (bodyOf Try.f125) tabR tyR true cs125 0) F125.D) x = o125_0 (c125_1) x.1 := by
  have e1 : ∀ t1 t4 t25, F125.labX (bodyOf Try.f125) tabR tyR true cs125 (F125.labM (bodyOf Try.f125) tabR tyR true cs125 0) 4 1 (st125_1 t1 t4 t25) = c125_1 t1 t4 t25 := fun t1 t4 t25 => (Fn.labX_step _ _ _ _ _ _ _ _ _ _ (by kernel_rfl)).trans (n125_1 (F125.labM (bodyOf Try.f125) tabR tyR true cs125 0) 2 t1 t4 t25)
  show F125.body (bodyOf Try.f125) tabR tyR true cs125 (F125.labX (bodyOf Try.f125) tabR tyR true cs125 (F125.labM (bodyOf Try.f125) tabR tyR true cs125 0) 4) x = _
  rw [p125_0]
  simp only [e1]
  try rfl
theorem call125 : Callable Try.prog 125 := callable_of Try.func125 (by kernel_rfl) (by kernel_rfl)
theorem ok125 : Cal.Ok Try.prog ⟨125, F125.ps, F125.rs, F125.fr, fun a => f125 a.1⟩ :=
  cal_of_fn F125 (code := bodyOf Try.f125) Try.func125 (by kernel_rfl) (by kernel_rfl) call125 htabR (cs := cs125) (fun c hc => by
      simp only [cs125, List.mem_cons, List.not_mem_nil, or_false] at hc
      rcases hc with rfl
      · exact ok152) (fun _ => mixed) (by kernel_rfl) (by kernel_rfl) (by decide) (fun x => ⟨0, w125 x⟩)
-- tranship/transhipref04.node
def o81_0 (a0 : Tm) : Option Bool :=
  (f124 a0.kind a0.n).bind fun x1 =>
  ifB (decide ((a0.kids.length : Int) = x1)) (
    (f125 a0).bind fun x2 =>
    some x2) (
    some false)
def f81 (a0 : Tm) : Option Bool := o81_0 a0
def an81 : An := .z
def F81 : Fn := { f := 81, a := an81, vars := [.tmp 2], ps := [.st .tm], rs := [.sc .bool], own := false, fr := true, nt := 16, D := 2, loops := [] }
def cs81 : List Cal := [⟨124, [.sc .int, .sc .int], [.sc .int], true, fun a => f124 a.1 a.2.1⟩, ⟨125, [.st .tm], [.sc .bool], true, fun a => f125 a.1⟩]
theorem p81_0 (lab : Nat → SS → Option (RT.den F81.rs)) (x : PTs.den F81.ps) : F81.body (bodyOf Try.f81) tabR tyR true cs81 lab x = o81_0 x.1 := by kernel_rfl
theorem w81 (x : PTs.den F81.ps) : F81.body (bodyOf Try.f81) tabR tyR true cs81 (F81.labX (bodyOf Try.f81) tabR tyR true cs81 (F81.labM (bodyOf Try.f81) tabR tyR true cs81 0) F81.D) x = o81_0 x.1 := by
  show F81.body (bodyOf Try.f81) tabR tyR true cs81 (F81.labX (bodyOf Try.f81) tabR tyR true cs81 (F81.labM (bodyOf Try.f81) tabR tyR true cs81 0) 2) x = _
  rw [p81_0]
theorem call81 : Callable Try.prog 81 := callable_of Try.func81 (by kernel_rfl) (by kernel_rfl)
theorem ok81 : Cal.Ok Try.prog ⟨81, F81.ps, F81.rs, F81.fr, fun a => f81 a.1⟩ :=
  cal_of_fn F81 (code := bodyOf Try.f81) Try.func81 (by kernel_rfl) (by kernel_rfl) call81 htabR (cs := cs81) (fun c hc => by
      simp only [cs81, List.mem_cons, List.not_mem_nil, or_false] at hc
      rcases hc with rfl | rfl
      · exact ok124
      · exact ok125) (fun _ => mixed) (by kernel_rfl) (by kernel_rfl) (by decide) (fun x => ⟨0, w81 x⟩)
-- tranship/transhipref04.Plain
def o82_0 (s82 : Tm → Option Bool) (n : Nat) (k1 : Tm → Option Bool) (a0 : Tm) : Option Bool :=
  ifB (!decide (a0.kind = (1 : Int))) (
    ifB (!decide (a0.kind = (2 : Int))) (
      ifB (decide (a0.kind < (13 : Int))) (
        some false) (
        ifB (decide ((23 : Int) < a0.kind)) (
          some false) (
          (f81 a0).bind fun x1 =>
          ifB (!x1) (
            some false) (
            k1 a0)))) (
      (f81 a0).bind fun x2 =>
      ifB (!x2) (
        some false) (
        k1 a0))) (
    (f81 a0).bind fun x3 =>
    ifB (!x3) (
      some false) (
      k1 a0))
def o82_1 (s82 : Tm → Option Bool) (n : Nat) (k2 : Tm → Int → Option Bool) (t1 : Tm) : Option Bool :=
  k2 t1 (0 : Int)
def o82_2 (s82 : Tm → Option Bool) (n : Nat) (k2 : Tm → Int → Option Bool) (t1 : Tm) (t3 : Int) : Option Bool :=
  ifB (decide (t3 < (t1.kids.length : Int))) (
    atI t1.kids t3 fun x4 =>
    (s82 x4).bind fun x5 =>
    ifB (!x5) (
      some false) (
      ckI (t3 + (1 : Int)) <|
      k2 t1 (t3 + (1 : Int)))) (
    some true)
def c82_1 (s82 : Tm → Option Bool) (n : Nat) (k2 : Tm → Int → Option Bool) (t1 : Tm) : Option Bool :=
  o82_1 s82 n k2 t1
def l82_2 (s82 : Tm → Option Bool) (n : Nat) : Nat → Tm → Int → Option Bool
  | 0, _, _ => none
  | m + 1, t1, t3 => o82_2 s82 n (l82_2 s82 n m) t1 t3
def f82 : Nat → Tm → Option Bool
  | 0, _ => none
  | n + 1, a0 => o82_0 (f82 n) n (c82_1 (f82 n) n (l82_2 (f82 n) n n)) a0
def an82 : An := (.n none [] 0 .z (.n (some 1) [(1, .ps 0 .tm false)] 1 .z (.n none [] 0 (.n none [] 0 .z (.n none [] 0 (.n (some 2) [(1, .ps 0 .tm false), (3, .one .c)] 1 .z .z) .z)) .z)))
def F82 : Fn := { f := 82, a := an82, vars := [.tmp 2], ps := [.st .tm], rs := [.sc .bool], own := false, fr := true, nt := 41, D := 4, loops := [2] }
def cs82 (s82 : Tm → Option Bool) (n : Nat) : List Cal := [⟨81, [.st .tm], [.sc .bool], true, fun a => f81 a.1⟩, ⟨82, [.st .tm], [.sc .bool], true, fun a => s82 a.1⟩]
def st82_1 (t1 : Tm) : SS := ⟨[(1, .v (.one (.ptr 0 0)))], [(0, some (.bst .tm t1 false))], 1⟩
def st82_2 (t1 : Tm) (t3 : Int) : SS := ⟨[(1, .v (.one (.ptr 0 0))), (3, .v (.one (.c (.int t3) true)))], [(0, some (.bst .tm t1 false))], 1⟩
theorem p82_0 (s82 : Tm → Option Bool) (n : Nat) (lab : Nat → SS → Option (RT.den F82.rs)) (x : PTs.den F82.ps) : F82.body (bodyOf Try.f82) tabR tyR true (cs82 s82 n) lab x = o82_0 s82 n (fun t1 => lab 1 (st82_1 t1)) x.1 := by kernel_rfl
theorem p82_1 (s82 : Tm → Option Bool) (n : Nat) (lab : Nat → SS → Option (RT.den F82.rs)) (t1 : Tm) : F82.at (bodyOf Try.f82) tabR tyR true (cs82 s82 n) lab 1 (st82_1 t1) = o82_1 s82 n (fun t1 t3 => lab 2 (st82_2 t1 t3)) t1 := by kernel_rfl
theorem p82_2 (s82 : Tm → Option Bool) (n : Nat) (lab : Nat → SS → Option (RT.den F82.rs)) (t1 : Tm) (t3 : Int) : F82.at (bodyOf Try.f82) tabR tyR true (cs82 s82 n) lab 2 (st82_2 t1 t3) = o82_2 s82 n (fun t1 t3 => lab 2 (st82_2 t1 t3)) t1 t3 := by kernel_rfl
theorem n82_1 (s82 : Tm → Option Bool) (n : Nat) (rec : Nat → SS → Option (RT.den F82.rs)) (k2 : Tm → Int → Option Bool) (h2 : ∀ t1 t3, rec 2 (st82_2 t1 t3) = k2 t1 t3) (d : Nat) (t1 : Tm) : F82.labD (bodyOf Try.f82) tabR tyR true (cs82 s82 n) rec (d + 1) 1 (st82_1 t1) = c82_1 s82 n k2 t1 := by
  have e2 : ∀ t1 t3, F82.labX (bodyOf Try.f82) tabR tyR true (cs82 s82 n) rec d 2 (st82_2 t1 t3) = k2 t1 t3 := fun t1 t3 => (Fn.labX_loop _ _ _ _ _ _ _ _ _ _ (by kernel_rfl)).trans (h2 t1 t3)
  show F82.labD (bodyOf Try.f82) tabR tyR true (cs82 s82 n) rec (d + 1) 1 _ = _
  rw [Fn.labD_succ, p82_1]
  simp only [e2]
  rfl
theorem m82_2 (s82 : Tm → Option Bool) (n : Nat) : ∀ m : Nat, (∀ t1 t3, F82.labM (bodyOf Try.f82) tabR tyR true (cs82 s82 n) m 2 (st82_2 t1 t3) = l82_2 s82 n m t1 t3) := by
  intro m
  induction m with
  | zero => exact fun _ _ => rfl
  | succ m ih =>
    intro t1 t3
    have e2 : ∀ t1 t3, F82.labX (bodyOf Try.f82) tabR tyR true (cs82 s82 n) (F82.labM (bodyOf Try.f82) tabR tyR true (cs82 s82 n) m) 3 2 (st82_2 t1 t3) = (l82_2 s82 n m) t1 t3 := fun t1 t3 => (Fn.labX_loop _ _ _ _ _ _ _ _ _ _ (by kernel_rfl)).trans (ih t1 t3)
    rw [Fn.labM_succ]
    show F82.labD (bodyOf Try.f82) tabR tyR true (cs82 s82 n) (F82.labM (bodyOf Try.f82) tabR tyR true (cs82 s82 n) m) (3 + 1) 2 _ = _
    rw [Fn.labD_succ, p82_2]
    simp only [e2]
    rfl
theorem w82 (s82 : Tm → Option Bool) (n : Nat) (x : PTs.den F82.ps) : F82.body (bodyOf Try.f82) tabR tyR true (cs82 s82 n) (F82.labX (bodyOf Try.f82) tabR tyR true (cs82 s82 n) (F82.labM (bodyOf Try.f82) tabR tyR true (cs82 s82 n) n) F82.D) x = o82_0 s82 n (c82_1 s82 n (l82_2 s82 n n)) x.1 := by
  have e1 : ∀ t1, F82.labX (bodyOf Try.f82) tabR tyR true (cs82 s82 n) (F82.labM (bodyOf Try.f82) tabR tyR true (cs82 s82 n) n) 4 1 (st82_1 t1) = c82_1 s82 n (l82_2 s82 n n) t1 := fun t1 => (Fn.labX_step _ _ _ _ _ _ _ _ _ _ (by kernel_rfl)).trans (n82_1 s82 n (F82.labM (bodyOf Try.f82) tabR tyR true (cs82 s82 n) n) (l82_2 s82 n n) (m82_2 s82 n n) 3 t1)
  show F82.body (bodyOf Try.f82) tabR tyR true (cs82 s82 n) (F82.labX (bodyOf Try.f82) tabR tyR true (cs82 s82 n) (F82.labM (bodyOf Try.f82) tabR tyR true (cs82 s82 n) n) 4) x = _
  rw [p82_0]
  simp only [e1]
  try rfl
theorem call82 : Callable Try.prog 82 := callable_of Try.func82 (by kernel_rfl) (by kernel_rfl)
theorem okr82 : ∀ n : Nat, Cal.Ok Try.prog ⟨82, F82.ps, F82.rs, F82.fr, fun a => f82 n a.1⟩
  | 0 => ⟨by kernel_rfl, fun a r h => by cases h⟩
  | n + 1 => cal_of_fn F82 (code := bodyOf Try.f82) Try.func82 (by kernel_rfl) (by kernel_rfl) call82 htabR (cs := cs82 (f82 n) n) (fun c hc => by
      simp only [cs82, List.mem_cons, List.not_mem_nil, or_false] at hc
      rcases hc with rfl | rfl
      · exact ok81
      · exact (okr82 n)) (fun _ => mixed) (by kernel_rfl) (by kernel_rfl) (by decide) (fun x => ⟨n, w82 (f82 n) n x⟩)
theorem ok82 (n : Nat) : Cal.Ok Try.prog ⟨82, F82.ps, F82.rs, F82.fr, fun a => f82 n a.1⟩ := (okr82 n)
-- tranship/transhipref04.Marked
def o25_0 (s25 : Tm → Option Bool) (n : Nat) (k1 : Tm → Option Bool) (a0 : Tm) : Option Bool :=
  ifB (decide (a0.kind < (1 : Int))) (
    some false) (
    ifB (decide ((12 : Int) < a0.kind)) (
      some false) (
      (f81 a0).bind fun x1 =>
      ifB (!x1) (
        some false) (
        k1 a0)))
def o25_1 (s25 : Tm → Option Bool) (n : Nat) (k2 : Tm → Int → Option Bool) (t1 : Tm) : Option Bool :=
  k2 t1 (0 : Int)
def o25_2 (s25 : Tm → Option Bool) (n : Nat) (k3 : Tm → Int → Bool → Option Bool) (t1 : Tm) (t3 : Int) : Option Bool :=
  ifB (decide (t3 < (t1.kids.length : Int))) (
    ifB (decide (t1.kind = (12 : Int))) (
      k3 t1 t3 (decide (t3 = (2 : Int)))) (
      k3 t1 t3 false)) (
    some true)
def o25_3 (s25 : Tm → Option Bool) (n : Nat) (k2 : Tm → Int → Option Bool) (t1 : Tm) (t3 : Int) (t30 : Bool) : Option Bool :=
  ifB t30 (
    atI t1.kids t3 fun x2 =>
    (f82 n x2).bind fun x3 =>
    ifB (!x3) (
      some false) (
      ckI (t3 + (1 : Int)) <|
      k2 t1 (t3 + (1 : Int)))) (
    atI t1.kids t3 fun x4 =>
    (s25 x4).bind fun x5 =>
    ifB (!x5) (
      some false) (
      ckI (t3 + (1 : Int)) <|
      k2 t1 (t3 + (1 : Int))))
def c25_1 (s25 : Tm → Option Bool) (n : Nat) (k2 : Tm → Int → Option Bool) (t1 : Tm) : Option Bool :=
  o25_1 s25 n k2 t1
def c25_3 (s25 : Tm → Option Bool) (n : Nat) (k2 : Tm → Int → Option Bool) (t1 : Tm) (t3 : Int) (t30 : Bool) : Option Bool :=
  o25_3 s25 n k2 t1 t3 t30
def l25_2 (s25 : Tm → Option Bool) (n : Nat) : Nat → Tm → Int → Option Bool
  | 0, _, _ => none
  | m + 1, t1, t3 => o25_2 s25 n (c25_3 s25 n (l25_2 s25 n m)) t1 t3
def f25 : Nat → Tm → Option Bool
  | 0, _ => none
  | n + 1, a0 => o25_0 (f25 n) n (c25_1 (f25 n) n (l25_2 (f25 n) n n)) a0
def an25 : An := (.n none [] 0 .z (.n (some 1) [(1, .ps 0 .tm false)] 1 .z (.n none [] 0 (.n none [] 0 .z (.n none [] 0 (.n (some 2) [(1, .ps 0 .tm false), (3, .one .c)] 1 (.n none [] 0 .z (.n none [] 0 (.n none [] 0 (.n (some 3) [(1, .ps 0 .tm false), (3, .one .c), (30, .one .c)] 1 .z .z) .z) .z)) .z) .z)) .z)))
def F25 : Fn := { f := 25, a := an25, vars := [.tmp 2], ps := [.st .tm], rs := [.sc .bool], own := false, fr := true, nt := 45, D := 5, loops := [2] }
def cs25 (s25 : Tm → Option Bool) (n : Nat) : List Cal := [⟨25, [.st .tm], [.sc .bool], true, fun a => s25 a.1⟩, ⟨81, [.st .tm], [.sc .bool], true, fun a => f81 a.1⟩, ⟨82, [.st .tm], [.sc .bool], true, fun a => f82 n a.1⟩]
def st25_1 (t1 : Tm) : SS := ⟨[(1, .v (.one (.ptr 0 0)))], [(0, some (.bst .tm t1 false))], 1⟩
def st25_2 (t1 : Tm) (t3 : Int) : SS := ⟨[(1, .v (.one (.ptr 0 0))), (3, .v (.one (.c (.int t3) true)))], [(0, some (.bst .tm t1 false))], 1⟩
def st25_3 (t1 : Tm) (t3 : Int) (t30 : Bool) : SS := ⟨[(1, .v (.one (.ptr 0 0))), (3, .v (.one (.c (.int t3) true))), (30, .v (.one (.c (.bool t30) true)))], [(0, some (.bst .tm t1 false))], 1⟩
theorem p25_0 (s25 : Tm → Option Bool) (n : Nat) (lab : Nat → SS → Option (RT.den F25.rs)) (x : PTs.den F25.ps) : F25.body (bodyOf Try.f25) tabR tyR true (cs25 s25 n) lab x = o25_0 s25 n (fun t1 => lab 1 (st25_1 t1)) x.1 := by kernel_rfl
theorem p25_1 (s25 : Tm → Option Bool) (n : Nat) (lab : Nat → SS → Option (RT.den F25.rs)) (t1 : Tm) : F25.at (bodyOf Try.f25) tabR tyR true (cs25 s25 n) lab 1 (st25_1 t1) = o25_1 s25 n (fun t1 t3 => lab 2 (st25_2 t1 t3)) t1 := by kernel_rfl
theorem p25_2 (s25 : Tm → Option Bool) (n : Nat) (lab : Nat → SS → Option (RT.den F25.rs)) (t1 : Tm) (t3 : Int) : F25.at (bodyOf Try.f25) tabR tyR true (cs25 s25 n) lab 2 (st25_2 t1 t3) = o25_2 s25 n (fun t1 t3 t30 => lab 3 (st25_3 t1 t3 t30)) t1 t3 := by kernel_rfl
theorem p25_3 (s25 : Tm → Option Bool) (n : Nat) (lab : Nat → SS → Option (RT.den F25.rs)) (t1 : Tm) (t3 : Int) (t30 : Bool) : F25.at (bodyOf Try.f25) tabR tyR true (cs25 s25 n) lab 3 (st25_3 t1 t3 t30) = o25_3 s25 n (fun t1 t3 => lab 2 (st25_2 t1 t3)) t1 t3 t30 := by kernel_rfl
theorem n25_1 (s25 : Tm → Option Bool) (n : Nat) (rec : Nat → SS → Option (RT.den F25.rs)) (k2 : Tm → Int → Option Bool) (h2 : ∀ t1 t3, rec 2 (st25_2 t1 t3) = k2 t1 t3) (d : Nat) (t1 : Tm) : F25.labD (bodyOf Try.f25) tabR tyR true (cs25 s25 n) rec (d + 1) 1 (st25_1 t1) = c25_1 s25 n k2 t1 := by
  have e2 : ∀ t1 t3, F25.labX (bodyOf Try.f25) tabR tyR true (cs25 s25 n) rec d 2 (st25_2 t1 t3) = k2 t1 t3 := fun t1 t3 => (Fn.labX_loop _ _ _ _ _ _ _ _ _ _ (by kernel_rfl)).trans (h2 t1 t3)
  show F25.labD (bodyOf Try.f25) tabR tyR true (cs25 s25 n) rec (d + 1) 1 _ = _
  rw [Fn.labD_succ, p25_1]
  simp only [e2]
  rfl
theorem n25_3 (s25 : Tm → Option Bool) (n : Nat) (rec : Nat → SS → Option (RT.den F25.rs)) (k2 : Tm → Int → Option Bool) (h2 : ∀ t1 t3, rec 2 (st25_2 t1 t3) = k2 t1 t3) (d : Nat) (t1 : Tm) (t3 : Int) (t30 : Bool) : F25.labD (bodyOf Try.f25) tabR tyR true (cs25 s25 n) rec (d + 1) 3 (st25_3 t1 t3 t30) = c25_3 s25 n k2 t1 t3 t30 := by
  have e2 : ∀ t1 t3, F25.labX (bodyOf Try.f25) tabR tyR true (cs25 s25 n) rec d 2 (st25_2 t1 t3) = k2 t1 t3 := fun t1 t3 => (Fn.labX_loop _ _ _ _ _ _ _ _ _ _ (by kernel_rfl)).trans (h2 t1 t3)
  show F25.labD (bodyOf Try.f25) tabR tyR true (cs25 s25 n) rec (d + 1) 3 _ = _
  rw [Fn.labD_succ, p25_3]
  simp only [e2]
  rfl
theorem m25_2 (s25 : Tm → Option Bool) (n : Nat) : ∀ m : Nat, (∀ t1 t3, F25.labM (bodyOf Try.f25) tabR tyR true (cs25 s25 n) m 2 (st25_2 t1 t3) = l25_2 s25 n m t1 t3) := by
  intro m
  induction m with
  | zero => exact fun _ _ => rfl
  | succ m ih =>
    intro t1 t3
    have e3 : ∀ t1 t3 t30, F25.labX (bodyOf Try.f25) tabR tyR true (cs25 s25 n) (F25.labM (bodyOf Try.f25) tabR tyR true (cs25 s25 n) m) 4 3 (st25_3 t1 t3 t30) = c25_3 s25 n (l25_2 s25 n m) t1 t3 t30 := fun t1 t3 t30 => (Fn.labX_step _ _ _ _ _ _ _ _ _ _ (by kernel_rfl)).trans (n25_3 s25 n (F25.labM (bodyOf Try.f25) tabR tyR true (cs25 s25 n) m) (l25_2 s25 n m) ih 3 t1 t3 t30)
    rw [Fn.labM_succ]
    show F25.labD (bodyOf Try.f25) tabR tyR true (cs25 s25 n) (F25.labM (bodyOf Try.f25) tabR tyR true (cs25 s25 n) m) (4 + 1) 2 _ = _
    rw [Fn.labD_succ, p25_2]
    simp only [e3]
    rfl
theorem w25 (s25 : Tm → Option Bool) (n : Nat) (x : PTs.den F25.ps) : F25.body (bodyOf Try.f25) tabR tyR true (cs25 s25 n) (F25.labX (bodyOf Try.f25) tabR tyR true (cs25 s25 n) (F25.labM (bodyOf Try.f25) tabR tyR true (cs25 s25 n) n) F25.D) x = o25_0 s25 n (c25_1 s25 n (l25_2 s25 n n)) x.1 := by
  have e1 : ∀ t1, F25.labX (bodyOf Try.f25) tabR tyR true (cs25 s25 n) (F25.labM (bodyOf Try.f25) tabR tyR true (cs25 s25 n) n) 5 1 (st25_1 t1) = c25_1 s25 n (l25_2 s25 n n) t1 := fun t1 => (Fn.labX_step _ _ _ _ _ _ _ _ _ _ (by kernel_rfl)).trans (n25_1 s25 n (F25.labM (bodyOf Try.f25) tabR tyR true (cs25 s25 n) n) (l25_2 s25 n n) (m25_2 s25 n n) 4 t1)
  show F25.body (bodyOf Try.f25) tabR tyR true (cs25 s25 n) (F25.labX (bodyOf Try.f25) tabR tyR true (cs25 s25 n) (F25.labM (bodyOf Try.f25) tabR tyR true (cs25 s25 n) n) 5) x = _
  rw [p25_0]
  simp only [e1]
  try rfl
theorem call25 : Callable Try.prog 25 := callable_of Try.func25 (by kernel_rfl) (by kernel_rfl)
theorem okr25 : ∀ n : Nat, Cal.Ok Try.prog ⟨25, F25.ps, F25.rs, F25.fr, fun a => f25 n a.1⟩
  | 0 => ⟨by kernel_rfl, fun a r h => by cases h⟩
  | n + 1 => cal_of_fn F25 (code := bodyOf Try.f25) Try.func25 (by kernel_rfl) (by kernel_rfl) call25 htabR (cs := cs25 (f25 n) n) (fun c hc => by
      simp only [cs25, List.mem_cons, List.not_mem_nil, or_false] at hc
      rcases hc with rfl | rfl | rfl
      · exact (okr25 n)
      · exact ok81
      · exact ok82 n) (fun _ => mixed) (by kernel_rfl) (by kernel_rfl) (by decide) (fun x => ⟨n, w25 (f25 n) n x⟩)
theorem ok25 (n : Nat) : Cal.Ok Try.prog ⟨25, F25.ps, F25.rs, F25.fr, fun a => f25 n a.1⟩ := (okr25 n)
-- tranship/transhipkeep.Twin, tranship/transhipkeep.Twins
def o21_0 (s21 : Tm → Option Tm) (s78 : (List Tm) → Option ((List Tm))) (n : Nat) (a0 : Tm) : Option Tm :=
  (s78 a0.kids).bind fun x1 =>
  some (Tm.mk a0.kind a0.i a0.j a0.n x1)
def o78_0 (s21 : Tm → Option Tm) (s78 : (List Tm) → Option ((List Tm))) (n : Nat) (k1 : (List Tm) → (List Tm) → Int → Option ((List Tm))) (a0 : List Tm) : Option ((List Tm)) :=
  k1 a0 ([] : List Tm) (0 : Int)
def o78_1 (s21 : Tm → Option Tm) (s78 : (List Tm) → Option ((List Tm))) (n : Nat) (k1 : (List Tm) → (List Tm) → Int → Option ((List Tm))) (t0 : List Tm) (t3 : List Tm) (t4 : Int) : Option ((List Tm)) :=
  ifB (decide (t4 < (t0.length : Int))) (
    atI t0 t4 fun x1 =>
    (s21 x1).bind fun x2 =>
    ckB (decide ((t3.length + [(Tm.mk x2.kind x2.i x2.j x2.n x2.kids)].length) * 56 ≤ 140737488355328) && decide (t3.length + [(Tm.mk x2.kind x2.i x2.j x2.n x2.kids)].length ≤ 9223372036854775807)) <|
    ckI (t4 + (1 : Int)) <|
    k1 t0 (t3 ++ [(Tm.mk x2.kind x2.i x2.j x2.n x2.kids)]) (t4 + (1 : Int))) (
    some t3)
def l78_1 (s21 : Tm → Option Tm) (s78 : (List Tm) → Option ((List Tm))) (n : Nat) : Nat → (List Tm) → (List Tm) → Int → Option ((List Tm))
  | 0, _, _, _ => none
  | m + 1, t0, t3, t4 => o78_1 s21 s78 n (l78_1 s21 s78 n m) t0 t3 t4
mutual
def f21 : Nat → Tm → Option Tm
  | 0, _ => none
  | n + 1, a0 => o21_0 (f21 n) (f78 n) n a0
def f78 : Nat → (List Tm) → Option ((List Tm))
  | 0, _ => none
  | n + 1, a0 => o78_0 (f21 n) (f78 n) n (l78_1 (f21 n) (f78 n) n n) a0
end
def an21 : An := .z
def F21 : Fn := { f := 21, a := an21, vars := [.cell 2 24], ps := [.st .tm], rs := [.st .tm], own := false, fr := true, nt := 15, D := 2, loops := [] }
def cs21 (s21 : Tm → Option Tm) (s78 : (List Tm) → Option ((List Tm))) (n : Nat) : List Cal := [⟨78, [.sl .tm], [.sl .tm], true, fun a => s78 a.1⟩]
theorem p21_0 (s21 : Tm → Option Tm) (s78 : (List Tm) → Option ((List Tm))) (n : Nat) (lab : Nat → SS → Option (RT.den F21.rs)) (x : PTs.den F21.ps) : F21.body (bodyOf Try.f21) tabR tyR true (cs21 s21 s78 n) lab x = o21_0 s21 s78 n x.1 := by kernel_rfl
theorem w21 (s21 : Tm → Option Tm) (s78 : (List Tm) → Option ((List Tm))) (n : Nat) (x : PTs.den F21.ps) : F21.body (bodyOf Try.f21) tabR tyR true (cs21 s21 s78 n) (F21.labX (bodyOf Try.f21) tabR tyR true (cs21 s21 s78 n) (F21.labM (bodyOf Try.f21) tabR tyR true (cs21 s21 s78 n) 0) F21.D) x = o21_0 s21 s78 n x.1 := by
  show F21.body (bodyOf Try.f21) tabR tyR true (cs21 s21 s78 n) (F21.labX (bodyOf Try.f21) tabR tyR true (cs21 s21 s78 n) (F21.labM (bodyOf Try.f21) tabR tyR true (cs21 s21 s78 n) 0) 2) x = _
  rw [p21_0]
theorem call21 : Callable Try.prog 21 := callable_of Try.func21 (by kernel_rfl) (by kernel_rfl)
def an78 : An := (.n none [] 0 .z (.n none [] 0 .z (.n none [] 0 (.n none [] 0 .z (.n none [] 0 (.n (some 1) [(0, .one (.d .tm false)), (3, .one (.r 0 24 .tm true)), (4, .one .c)] 1 .z .z) .z)) .z)))
def F78 : Fn := { f := 78, a := an78, vars := [.tmp 2], ps := [.sl .tm], rs := [.sl .tm], own := false, fr := true, nt := 20, D := 3, loops := [1] }
def cs78 (s21 : Tm → Option Tm) (s78 : (List Tm) → Option ((List Tm))) (n : Nat) : List Cal := [⟨21, [.st .tm], [.st .tm], true, fun a => s21 a.1⟩]
def st78_1 (t0 : List Tm) (t3 : List Tm) (t4 : Int) : SS := ⟨[(0, .v (.one (.c (.sl .tm t0) false))), (3, .v (.one (.arr 0))), (4, .v (.one (.c (.int t4) true)))], [(0, some (.row 24 .tm t3 true))], 1⟩
theorem p78_0 (s21 : Tm → Option Tm) (s78 : (List Tm) → Option ((List Tm))) (n : Nat) (lab : Nat → SS → Option (RT.den F78.rs)) (x : PTs.den F78.ps) : F78.body (bodyOf Try.f78) tabR tyR true (cs78 s21 s78 n) lab x = o78_0 s21 s78 n (fun t0 t3 t4 => lab 1 (st78_1 t0 t3 t4)) x.1 := by kernel_rfl
theorem p78_1 (s21 : Tm → Option Tm) (s78 : (List Tm) → Option ((List Tm))) (n : Nat) (lab : Nat → SS → Option (RT.den F78.rs)) (t0 : List Tm) (t3 : List Tm) (t4 : Int) : F78.at (bodyOf Try.f78) tabR tyR true (cs78 s21 s78 n) lab 1 (st78_1 t0 t3 t4) = o78_1 s21 s78 n (fun t0 t3 t4 => lab 1 (st78_1 t0 t3 t4)) t0 t3 t4 := by kernel_rfl
theorem m78_1 (s21 : Tm → Option Tm) (s78 : (List Tm) → Option ((List Tm))) (n : Nat) : ∀ m : Nat, (∀ t0 t3 t4, F78.labM (bodyOf Try.f78) tabR tyR true (cs78 s21 s78 n) m 1 (st78_1 t0 t3 t4) = l78_1 s21 s78 n m t0 t3 t4) := by
  intro m
  induction m with
  | zero => exact fun _ _ _ => rfl
  | succ m ih =>
    intro t0 t3 t4
    have e1 : ∀ t0 t3 t4, F78.labX (bodyOf Try.f78) tabR tyR true (cs78 s21 s78 n) (F78.labM (bodyOf Try.f78) tabR tyR true (cs78 s21 s78 n) m) 2 1 (st78_1 t0 t3 t4) = (l78_1 s21 s78 n m) t0 t3 t4 := fun t0 t3 t4 => (Fn.labX_loop _ _ _ _ _ _ _ _ _ _ (by kernel_rfl)).trans (ih t0 t3 t4)
    rw [Fn.labM_succ]
    show F78.labD (bodyOf Try.f78) tabR tyR true (cs78 s21 s78 n) (F78.labM (bodyOf Try.f78) tabR tyR true (cs78 s21 s78 n) m) (2 + 1) 1 _ = _
    rw [Fn.labD_succ, p78_1]
    simp only [e1]
    rfl
theorem w78 (s21 : Tm → Option Tm) (s78 : (List Tm) → Option ((List Tm))) (n : Nat) (x : PTs.den F78.ps) : F78.body (bodyOf Try.f78) tabR tyR true (cs78 s21 s78 n) (F78.labX (bodyOf Try.f78) tabR tyR true (cs78 s21 s78 n) (F78.labM (bodyOf Try.f78) tabR tyR true (cs78 s21 s78 n) n) F78.D) x = o78_0 s21 s78 n (l78_1 s21 s78 n n) x.1 := by
  have e1 : ∀ t0 t3 t4, F78.labX (bodyOf Try.f78) tabR tyR true (cs78 s21 s78 n) (F78.labM (bodyOf Try.f78) tabR tyR true (cs78 s21 s78 n) n) 3 1 (st78_1 t0 t3 t4) = (l78_1 s21 s78 n n) t0 t3 t4 := fun t0 t3 t4 => (Fn.labX_loop _ _ _ _ _ _ _ _ _ _ (by kernel_rfl)).trans ((m78_1 s21 s78 n n) t0 t3 t4)
  show F78.body (bodyOf Try.f78) tabR tyR true (cs78 s21 s78 n) (F78.labX (bodyOf Try.f78) tabR tyR true (cs78 s21 s78 n) (F78.labM (bodyOf Try.f78) tabR tyR true (cs78 s21 s78 n) n) 3) x = _
  rw [p78_0]
  simp only [e1]
  try rfl
theorem call78 : Callable Try.prog 78 := callable_of Try.func78 (by kernel_rfl) (by kernel_rfl)
theorem okr21 : ∀ n : Nat, Cal.Ok Try.prog ⟨21, F21.ps, F21.rs, F21.fr, fun a => f21 n a.1⟩ ∧ Cal.Ok Try.prog ⟨78, F78.ps, F78.rs, F78.fr, fun a => f78 n a.1⟩
  | 0 => ⟨⟨by kernel_rfl, fun a r h => by cases h⟩, ⟨by kernel_rfl, fun a r h => by cases h⟩⟩
  | n + 1 => ⟨cal_of_fn F21 (code := bodyOf Try.f21) Try.func21 (by kernel_rfl) (by kernel_rfl) call21 htabR (cs := cs21 (f21 n) (f78 n) n) (fun c hc => by
      simp only [cs21, List.mem_cons, List.not_mem_nil, or_false] at hc
      rcases hc with rfl
      · exact (okr21 n).2) (fun _ => mixed) (by kernel_rfl) (by kernel_rfl) (by decide) (fun x => ⟨0, w21 (f21 n) (f78 n) n x⟩),
    cal_of_fn F78 (code := bodyOf Try.f78) Try.func78 (by kernel_rfl) (by kernel_rfl) call78 htabR (cs := cs78 (f21 n) (f78 n) n) (fun c hc => by
      simp only [cs78, List.mem_cons, List.not_mem_nil, or_false] at hc
      rcases hc with rfl
      · exact (okr21 n).1) (fun _ => mixed) (by kernel_rfl) (by kernel_rfl) (by decide) (fun x => ⟨n, w78 (f21 n) (f78 n) n x⟩)⟩
theorem ok21 (n : Nat) : Cal.Ok Try.prog ⟨21, F21.ps, F21.rs, F21.fr, fun a => f21 n a.1⟩ := (okr21 n).1
-- tranship/term.sort
def o149_0 (k1 : Int → Bool → Option Int) (a0 : Int) : Option Int :=
  ifB (decide (a0 = (1 : Int))) (
    k1 a0 true) (
    k1 a0 (decide (a0 = (2 : Int))))
def o149_1 (t0 : Int) (t3 : Bool) : Option Int :=
  ifB t3 (
    some (0 : Int)) (
    ifB (decide (t0 ≤ (12 : Int))) (
      some (1 : Int)) (
      some (2 : Int)))
def c149_1 (t0 : Int) (t3 : Bool) : Option Int :=
  o149_1 t0 t3
def f149 (a0 : Int) : Option Int := o149_0 (c149_1) a0
def an149 : An := (.n none [] 0 .z (.n none [] 0 (.n none [] 0 (.n (some 1) [(0, .one .c), (3, .one .c)] 0 .z .z) .z) .z))
def F149 : Fn := { f := 149, a := an149, vars := [.tmp 2], ps := [.sc .int], rs := [.sc .int], own := false, fr := true, nt := 13, D := 3, loops := [] }
def cs149 : List Cal := []
def st149_1 (t0 : Int) (t3 : Bool) : SS := ⟨[(0, .v (.one (.c (.int t0) true))), (3, .v (.one (.c (.bool t3) true)))], [], 0⟩
theorem p149_0 (lab : Nat → SS → Option (RT.den F149.rs)) (x : PTs.den F149.ps) : F149.body (bodyOf Try.f149) tabR tyR true cs149 lab x = o149_0 (fun t0 t3 => lab 1 (st149_1 t0 t3)) x.1 := by kernel_rfl
theorem p149_1 (lab : Nat → SS → Option (RT.den F149.rs)) (t0 : Int) (t3 : Bool) : F149.at (bodyOf Try.f149) tabR tyR true cs149 lab 1 (st149_1 t0 t3) = o149_1 t0 t3 := by kernel_rfl
theorem n149_1 (rec : Nat → SS → Option (RT.den F149.rs)) (d : Nat) (t0 : Int) (t3 : Bool) : F149.labD (bodyOf Try.f149) tabR tyR true cs149 rec (d + 1) 1 (st149_1 t0 t3) = c149_1 t0 t3 := by
  show F149.labD (bodyOf Try.f149) tabR tyR true cs149 rec (d + 1) 1 _ = _
  rw [Fn.labD_succ, p149_1]
  rfl
theorem w149 (x : PTs.den F149.ps) : F149.body (bodyOf Try.f149) tabR tyR true cs149 (F149.labX (bodyOf Try.f149) tabR tyR true cs149 (F149.labM (bodyOf Try.f149) tabR tyR true cs149 0) F149.D) x = o149_0 (c149_1) x.1 := by
  have e1 : ∀ t0 t3, F149.labX (bodyOf Try.f149) tabR tyR true cs149 (F149.labM (bodyOf Try.f149) tabR tyR true cs149 0) 3 1 (st149_1 t0 t3) = c149_1 t0 t3 := fun t0 t3 => (Fn.labX_step _ _ _ _ _ _ _ _ _ _ (by kernel_rfl)).trans (n149_1 (F149.labM (bodyOf Try.f149) tabR tyR true cs149 0) 2 t0 t3)
  show F149.body (bodyOf Try.f149) tabR tyR true cs149 (F149.labX (bodyOf Try.f149) tabR tyR true cs149 (F149.labM (bodyOf Try.f149) tabR tyR true cs149 0) 3) x = _
  rw [p149_0]
  simp only [e1]
  try rfl
theorem call149 : Callable Try.prog 149 := callable_of Try.func149 (by kernel_rfl) (by kernel_rfl)
theorem ok149 : Cal.Ok Try.prog ⟨149, F149.ps, F149.rs, F149.fr, fun a => f149 a.1⟩ :=
  cal_of_fn F149 (code := bodyOf Try.f149) Try.func149 (by kernel_rfl) (by kernel_rfl) call149 htabR (cs := cs149) (fun c hc => by simp only [cs149, List.not_mem_nil] at hc) (fun _ => mixed) (by kernel_rfl) (by kernel_rfl) (by decide) (fun x => ⟨0, w149 x⟩)
-- tranship/term.takes
def o165_0 (k1 : Int → Bool → Option Int) (a0 : Int) : Option Int :=
  ifB (decide (a0 = (3 : Int))) (
    k1 a0 (decide (a0 = (3 : Int)))) (
    ifB (decide (a0 = (5 : Int))) (
      k1 a0 (decide (a0 = (5 : Int)))) (
      ifB (decide (a0 = (6 : Int))) (
        k1 a0 (decide (a0 = (6 : Int)))) (
        ifB (decide (a0 = (8 : Int))) (
          k1 a0 (decide (a0 = (8 : Int)))) (
          ifB (decide (a0 = (10 : Int))) (
            k1 a0 (decide (a0 = (10 : Int)))) (
            k1 a0 (decide (a0 = (11 : Int))))))))
def o165_1 (k2 : Int → Bool → Option Int) (t3 : Int) (t4 : Bool) : Option Int :=
  ifB t4 (
    some (4 : Int)) (
    ifB (decide (t3 = (1 : Int))) (
      k2 t3 (decide (t3 = (1 : Int)))) (
      ifB (decide (t3 = (2 : Int))) (
        k2 t3 (decide (t3 = (2 : Int)))) (
        ifB (decide (t3 = (7 : Int))) (
          k2 t3 (decide (t3 = (7 : Int)))) (
          k2 t3 (decide (t3 = (9 : Int)))))))
def o165_2 (k3 : Int → Bool → Option Int) (t3 : Int) (t11 : Bool) : Option Int :=
  ifB t11 (
    some (5 : Int)) (
    ifB (decide (t3 = (4 : Int))) (
      k3 t3 (decide (t3 = (4 : Int)))) (
      ifB (decide (t3 = (12 : Int))) (
        k3 t3 (decide (t3 = (12 : Int)))) (
        ifB (decide (t3 = (13 : Int))) (
          k3 t3 (decide (t3 = (13 : Int)))) (
          ifB (decide (t3 = (14 : Int))) (
            k3 t3 (decide (t3 = (14 : Int)))) (
            k3 t3 (decide (t3 = (21 : Int))))))))
def o165_3 (k4 : Int → Bool → Option Int) (t3 : Int) (t16 : Bool) : Option Int :=
  ifB t16 (
    some (6 : Int)) (
    ifB (decide (t3 = (15 : Int))) (
      k4 t3 (decide (t3 = (15 : Int)))) (
      ifB (decide (t3 = (18 : Int))) (
        k4 t3 (decide (t3 = (18 : Int)))) (
        ifB (decide (t3 = (19 : Int))) (
          k4 t3 (decide (t3 = (19 : Int)))) (
          k4 t3 (decide (t3 = (20 : Int)))))))
def o165_4 (t3 : Int) (t22 : Bool) : Option Int :=
  ifB t22 (
    some (9 : Int)) (
    ifB (decide (t3 = (16 : Int))) (
      ifB (decide (t3 = (16 : Int))) (
        some (12 : Int)) (
        some (-1 : Int))) (
      ifB (decide (t3 = (17 : Int))) (
        some (12 : Int)) (
        some (-1 : Int))))
def c165_4 (t3 : Int) (t22 : Bool) : Option Int :=
  o165_4 t3 t22
def c165_3 (t3 : Int) (t16 : Bool) : Option Int :=
  o165_3 (c165_4) t3 t16
def c165_2 (t3 : Int) (t11 : Bool) : Option Int :=
  o165_2 (c165_3) t3 t11
def c165_1 (t3 : Int) (t4 : Bool) : Option Int :=
  o165_1 (c165_2) t3 t4
def f165 (a0 : Int) : Option Int := o165_0 (c165_1) a0
def an165 : An := (.n none [] 0 .z (.n none [] 0 (.n none [] 0 .z (.n none [] 0 (.n (some 1) [(3, .one .c), (4, .one .c)] 0 .z (.n none [] 0 .z (.n (some 2) [(3, .one .c), (11, .one .c)] 0 .z (.n none [] 0 .z (.n (some 3) [(3, .one .c), (16, .one .c)] 0 .z (.n none [] 0 .z (.n (some 4) [(3, .one .c), (22, .one .c)] 0 .z .z))))))) .z)) .z))
def F165 : Fn := { f := 165, a := an165, vars := [.tmp 2], ps := [.sc .int], rs := [.sc .int], own := false, fr := true, nt := 30, D := 6, loops := [] }
def cs165 : List Cal := []
def st165_1 (t3 : Int) (t4 : Bool) : SS := ⟨[(3, .v (.one (.c (.int t3) true))), (4, .v (.one (.c (.bool t4) true)))], [], 0⟩
def st165_2 (t3 : Int) (t11 : Bool) : SS := ⟨[(3, .v (.one (.c (.int t3) true))), (11, .v (.one (.c (.bool t11) true)))], [], 0⟩
def st165_3 (t3 : Int) (t16 : Bool) : SS := ⟨[(3, .v (.one (.c (.int t3) true))), (16, .v (.one (.c (.bool t16) true)))], [], 0⟩
def st165_4 (t3 : Int) (t22 : Bool) : SS := ⟨[(3, .v (.one (.c (.int t3) true))), (22, .v (.one (.c (.bool t22) true)))], [], 0⟩
theorem p165_0 (lab : Nat → SS → Option (RT.den F165.rs)) (x : PTs.den F165.ps) : F165.body (bodyOf Try.f165) tabR tyR true cs165 lab x = o165_0 (fun t3 t4 => lab 1 (st165_1 t3 t4)) x.1 := by kernel_rfl
theorem p165_1 (lab : Nat → SS → Option (RT.den F165.rs)) (t3 : Int) (t4 : Bool) : F165.at (bodyOf Try.f165) tabR tyR true cs165 lab 1 (st165_1 t3 t4) = o165_1 (fun t3 t11 => lab 2 (st165_2 t3 t11)) t3 t4 := by kernel_rfl
theorem p165_2 (lab : Nat → SS → Option (RT.den F165.rs)) (t3 : Int) (t11 : Bool) : F165.at (bodyOf Try.f165) tabR tyR true cs165 lab 2 (st165_2 t3 t11) = o165_2 (fun t3 t16 => lab 3 (st165_3 t3 t16)) t3 t11 := by kernel_rfl
theorem p165_3 (lab : Nat → SS → Option (RT.den F165.rs)) (t3 : Int) (t16 : Bool) : F165.at (bodyOf Try.f165) tabR tyR true cs165 lab 3 (st165_3 t3 t16) = o165_3 (fun t3 t22 => lab 4 (st165_4 t3 t22)) t3 t16 := by kernel_rfl
theorem p165_4 (lab : Nat → SS → Option (RT.den F165.rs)) (t3 : Int) (t22 : Bool) : F165.at (bodyOf Try.f165) tabR tyR true cs165 lab 4 (st165_4 t3 t22) = o165_4 t3 t22 := by kernel_rfl
theorem n165_4 (rec : Nat → SS → Option (RT.den F165.rs)) (d : Nat) (t3 : Int) (t22 : Bool) : F165.labD (bodyOf Try.f165) tabR tyR true cs165 rec (d + 1) 4 (st165_4 t3 t22) = c165_4 t3 t22 := by
  show F165.labD (bodyOf Try.f165) tabR tyR true cs165 rec (d + 1) 4 _ = _
  rw [Fn.labD_succ, p165_4]
  rfl
theorem n165_3 (rec : Nat → SS → Option (RT.den F165.rs)) (d : Nat) (t3 : Int) (t16 : Bool) : F165.labD (bodyOf Try.f165) tabR tyR true cs165 rec (d + 2) 3 (st165_3 t3 t16) = c165_3 t3 t16 := by
  have e4 : ∀ t3 t22, F165.labX (bodyOf Try.f165) tabR tyR true cs165 rec (d + 1) 4 (st165_4 t3 t22) = c165_4 t3 t22 := fun t3 t22 => (Fn.labX_step _ _ _ _ _ _ _ _ _ _ (by kernel_rfl)).trans (n165_4 rec d t3 t22)
  show F165.labD (bodyOf Try.f165) tabR tyR true cs165 rec ((d + 1) + 1) 3 _ = _
  rw [Fn.labD_succ, p165_3]
  simp only [e4]
  rfl
theorem n165_2 (rec : Nat → SS → Option (RT.den F165.rs)) (d : Nat) (t3 : Int) (t11 : Bool) : F165.labD (bodyOf Try.f165) tabR tyR true cs165 rec (d + 3) 2 (st165_2 t3 t11) = c165_2 t3 t11 := by
  have e3 : ∀ t3 t16, F165.labX (bodyOf Try.f165) tabR tyR true cs165 rec (d + 2) 3 (st165_3 t3 t16) = c165_3 t3 t16 := fun t3 t16 => (Fn.labX_step _ _ _ _ _ _ _ _ _ _ (by kernel_rfl)).trans (n165_3 rec d t3 t16)
  show F165.labD (bodyOf Try.f165) tabR tyR true cs165 rec ((d + 2) + 1) 2 _ = _
  rw [Fn.labD_succ, p165_2]
  simp only [e3]
  rfl
theorem n165_1 (rec : Nat → SS → Option (RT.den F165.rs)) (d : Nat) (t3 : Int) (t4 : Bool) : F165.labD (bodyOf Try.f165) tabR tyR true cs165 rec (d + 4) 1 (st165_1 t3 t4) = c165_1 t3 t4 := by
  have e2 : ∀ t3 t11, F165.labX (bodyOf Try.f165) tabR tyR true cs165 rec (d + 3) 2 (st165_2 t3 t11) = c165_2 t3 t11 := fun t3 t11 => (Fn.labX_step _ _ _ _ _ _ _ _ _ _ (by kernel_rfl)).trans (n165_2 rec d t3 t11)
  show F165.labD (bodyOf Try.f165) tabR tyR true cs165 rec ((d + 3) + 1) 1 _ = _
  rw [Fn.labD_succ, p165_1]
  simp only [e2]
  rfl
theorem w165 (x : PTs.den F165.ps) : F165.body (bodyOf Try.f165) tabR tyR true cs165 (F165.labX (bodyOf Try.f165) tabR tyR true cs165 (F165.labM (bodyOf Try.f165) tabR tyR true cs165 0) F165.D) x = o165_0 (c165_1) x.1 := by
  have e1 : ∀ t3 t4, F165.labX (bodyOf Try.f165) tabR tyR true cs165 (F165.labM (bodyOf Try.f165) tabR tyR true cs165 0) 6 1 (st165_1 t3 t4) = c165_1 t3 t4 := fun t3 t4 => (Fn.labX_step _ _ _ _ _ _ _ _ _ _ (by kernel_rfl)).trans (n165_1 (F165.labM (bodyOf Try.f165) tabR tyR true cs165 0) 2 t3 t4)
  show F165.body (bodyOf Try.f165) tabR tyR true cs165 (F165.labX (bodyOf Try.f165) tabR tyR true cs165 (F165.labM (bodyOf Try.f165) tabR tyR true cs165 0) 6) x = _
  rw [p165_0]
  simp only [e1]
  try rfl
theorem call165 : Callable Try.prog 165 := callable_of Try.func165 (by kernel_rfl) (by kernel_rfl)
theorem ok165 : Cal.Ok Try.prog ⟨165, F165.ps, F165.rs, F165.fr, fun a => f165 a.1⟩ :=
  cal_of_fn F165 (code := bodyOf Try.f165) Try.func165 (by kernel_rfl) (by kernel_rfl) call165 htabR (cs := cs165) (fun c hc => by simp only [cs165, List.not_mem_nil] at hc) (fun _ => mixed) (by kernel_rfl) (by kernel_rfl) (by decide) (fun x => ⟨0, w165 x⟩)
-- tranship/term.Kids
def o150_0 (k1 : Int → Int → Bool → Option Int) (a0 : Int) (a1 : Int) : Option Int :=
  ifB (decide (a0 = (1 : Int))) (
    k1 a1 a0 (decide (a0 = (1 : Int)))) (
    k1 a1 a0 (decide (a0 = (2 : Int))))
def o150_1 (k2 : Int → Int → Bool → Option Int) (t1 : Int) (t5 : Int) (t6 : Bool) : Option Int :=
  ifB t6 (
    some (0 : Int)) (
    ifB (decide (t5 = (18 : Int))) (
      k2 t1 t5 (decide (t5 = (18 : Int)))) (
      k2 t1 t5 (decide (t5 = (19 : Int)))))
def o150_2 (k3 : Int → Int → Bool → Option Int) (t1 : Int) (t5 : Int) (t9 : Bool) : Option Int :=
  ifB t9 (
    some (1 : Int)) (
    ifB (decide (t5 = (3 : Int))) (
      k3 t1 t5 (decide (t5 = (3 : Int)))) (
      ifB (decide (t5 = (6 : Int))) (
        k3 t1 t5 (decide (t5 = (6 : Int)))) (
        ifB (decide (t5 = (13 : Int))) (
          k3 t1 t5 (decide (t5 = (13 : Int)))) (
          ifB (decide (t5 = (14 : Int))) (
            k3 t1 t5 (decide (t5 = (14 : Int)))) (
            ifB (decide (t5 = (15 : Int))) (
              k3 t1 t5 (decide (t5 = (15 : Int)))) (
              ifB (decide (t5 = (16 : Int))) (
                k3 t1 t5 (decide (t5 = (16 : Int)))) (
                ifB (decide (t5 = (21 : Int))) (
                  k3 t1 t5 (decide (t5 = (21 : Int)))) (
                  k3 t1 t5 (decide (t5 = (11 : Int)))))))))))
def o150_3 (k4 : Int → Int → Bool → Option Int) (t1 : Int) (t5 : Int) (t12 : Bool) : Option Int :=
  ifB t12 (
    some (2 : Int)) (
    ifB (decide (t5 = (4 : Int))) (
      k4 t1 t5 (decide (t5 = (4 : Int)))) (
      ifB (decide (t5 = (8 : Int))) (
        k4 t1 t5 (decide (t5 = (8 : Int)))) (
        ifB (decide (t5 = (9 : Int))) (
          k4 t1 t5 (decide (t5 = (9 : Int)))) (
          ifB (decide (t5 = (10 : Int))) (
            k4 t1 t5 (decide (t5 = (10 : Int)))) (
            k4 t1 t5 (decide (t5 = (20 : Int))))))))
def o150_4 (k5 : Int → Int → Bool → Option Int) (t1 : Int) (t5 : Int) (t21 : Bool) : Option Int :=
  ifB t21 (
    some (3 : Int)) (
    ifB (decide (t5 = (5 : Int))) (
      k5 t1 t5 (decide (t5 = (5 : Int)))) (
      ifB (decide (t5 = (7 : Int))) (
        k5 t1 t5 (decide (t5 = (7 : Int)))) (
        ifB (decide (t5 = (12 : Int))) (
          k5 t1 t5 (decide (t5 = (12 : Int)))) (
          k5 t1 t5 (decide (t5 = (17 : Int)))))))
def o150_5 (t1 : Int) (t5 : Int) (t27 : Bool) : Option Int :=
  ifB t27 (
    some (4 : Int)) (
    ifB (decide (t5 = (22 : Int))) (
      some (6 : Int)) (
      ifB (decide (t5 = (23 : Int))) (
        (f165 t1).bind fun x1 =>
        some x1) (
        some (-1 : Int))))
def c150_5 (t1 : Int) (t5 : Int) (t27 : Bool) : Option Int :=
  o150_5 t1 t5 t27
def c150_4 (t1 : Int) (t5 : Int) (t21 : Bool) : Option Int :=
  o150_4 (c150_5) t1 t5 t21
def c150_3 (t1 : Int) (t5 : Int) (t12 : Bool) : Option Int :=
  o150_3 (c150_4) t1 t5 t12
def c150_2 (t1 : Int) (t5 : Int) (t9 : Bool) : Option Int :=
  o150_2 (c150_3) t1 t5 t9
def c150_1 (t1 : Int) (t5 : Int) (t6 : Bool) : Option Int :=
  o150_1 (c150_2) t1 t5 t6
def f150 (a0 : Int) (a1 : Int) : Option Int := o150_0 (c150_1) a0 a1
def an150 : An := (.n none [] 0 .z (.n none [] 0 (.n none [] 0 .z (.n none [] 0 (.n (some 1) [(1, .one .c), (5, .one .c), (6, .one .c)] 0 .z (.n none [] 0 .z (.n (some 2) [(1, .one .c), (5, .one .c), (9, .one .c)] 0 .z (.n none [] 0 .z (.n (some 3) [(1, .one .c), (5, .one .c), (12, .one .c)] 0 .z (.n none [] 0 .z (.n (some 4) [(1, .one .c), (5, .one .c), (21, .one .c)] 0 .z (.n none [] 0 .z (.n (some 5) [(1, .one .c), (5, .one .c), (27, .one .c)] 0 .z .z))))))))) .z)) .z))
def F150 : Fn := { f := 150, a := an150, vars := [.tmp 4], ps := [.sc .int, .sc .int], rs := [.sc .int], own := false, fr := true, nt := 38, D := 7, loops := [] }
def cs150 : List Cal := [⟨165, [.sc .int], [.sc .int], true, fun a => f165 a.1⟩]
def st150_1 (t1 : Int) (t5 : Int) (t6 : Bool) : SS := ⟨[(1, .v (.one (.c (.int t1) true))), (5, .v (.one (.c (.int t5) true))), (6, .v (.one (.c (.bool t6) true)))], [], 0⟩
def st150_2 (t1 : Int) (t5 : Int) (t9 : Bool) : SS := ⟨[(1, .v (.one (.c (.int t1) true))), (5, .v (.one (.c (.int t5) true))), (9, .v (.one (.c (.bool t9) true)))], [], 0⟩
def st150_3 (t1 : Int) (t5 : Int) (t12 : Bool) : SS := ⟨[(1, .v (.one (.c (.int t1) true))), (5, .v (.one (.c (.int t5) true))), (12, .v (.one (.c (.bool t12) true)))], [], 0⟩
def st150_4 (t1 : Int) (t5 : Int) (t21 : Bool) : SS := ⟨[(1, .v (.one (.c (.int t1) true))), (5, .v (.one (.c (.int t5) true))), (21, .v (.one (.c (.bool t21) true)))], [], 0⟩
def st150_5 (t1 : Int) (t5 : Int) (t27 : Bool) : SS := ⟨[(1, .v (.one (.c (.int t1) true))), (5, .v (.one (.c (.int t5) true))), (27, .v (.one (.c (.bool t27) true)))], [], 0⟩
theorem p150_0 (lab : Nat → SS → Option (RT.den F150.rs)) (x : PTs.den F150.ps) : F150.body (bodyOf Try.f150) tabR tyR true cs150 lab x = o150_0 (fun t1 t5 t6 => lab 1 (st150_1 t1 t5 t6)) x.1 x.2.1 := by kernel_rfl
theorem p150_1 (lab : Nat → SS → Option (RT.den F150.rs)) (t1 : Int) (t5 : Int) (t6 : Bool) : F150.at (bodyOf Try.f150) tabR tyR true cs150 lab 1 (st150_1 t1 t5 t6) = o150_1 (fun t1 t5 t9 => lab 2 (st150_2 t1 t5 t9)) t1 t5 t6 := by kernel_rfl
theorem p150_2 (lab : Nat → SS → Option (RT.den F150.rs)) (t1 : Int) (t5 : Int) (t9 : Bool) : F150.at (bodyOf Try.f150) tabR tyR true cs150 lab 2 (st150_2 t1 t5 t9) = o150_2 (fun t1 t5 t12 => lab 3 (st150_3 t1 t5 t12)) t1 t5 t9 := by kernel_rfl
theorem p150_3 (lab : Nat → SS → Option (RT.den F150.rs)) (t1 : Int) (t5 : Int) (t12 : Bool) : F150.at (bodyOf Try.f150) tabR tyR true cs150 lab 3 (st150_3 t1 t5 t12) = o150_3 (fun t1 t5 t21 => lab 4 (st150_4 t1 t5 t21)) t1 t5 t12 := by kernel_rfl
theorem p150_4 (lab : Nat → SS → Option (RT.den F150.rs)) (t1 : Int) (t5 : Int) (t21 : Bool) : F150.at (bodyOf Try.f150) tabR tyR true cs150 lab 4 (st150_4 t1 t5 t21) = o150_4 (fun t1 t5 t27 => lab 5 (st150_5 t1 t5 t27)) t1 t5 t21 := by kernel_rfl
theorem p150_5 (lab : Nat → SS → Option (RT.den F150.rs)) (t1 : Int) (t5 : Int) (t27 : Bool) : F150.at (bodyOf Try.f150) tabR tyR true cs150 lab 5 (st150_5 t1 t5 t27) = o150_5 t1 t5 t27 := by kernel_rfl
theorem n150_5 (rec : Nat → SS → Option (RT.den F150.rs)) (d : Nat) (t1 : Int) (t5 : Int) (t27 : Bool) : F150.labD (bodyOf Try.f150) tabR tyR true cs150 rec (d + 1) 5 (st150_5 t1 t5 t27) = c150_5 t1 t5 t27 := by
  show F150.labD (bodyOf Try.f150) tabR tyR true cs150 rec (d + 1) 5 _ = _
  rw [Fn.labD_succ, p150_5]
  rfl
theorem n150_4 (rec : Nat → SS → Option (RT.den F150.rs)) (d : Nat) (t1 : Int) (t5 : Int) (t21 : Bool) : F150.labD (bodyOf Try.f150) tabR tyR true cs150 rec (d + 2) 4 (st150_4 t1 t5 t21) = c150_4 t1 t5 t21 := by
  have e5 : ∀ t1 t5 t27, F150.labX (bodyOf Try.f150) tabR tyR true cs150 rec (d + 1) 5 (st150_5 t1 t5 t27) = c150_5 t1 t5 t27 := fun t1 t5 t27 => (Fn.labX_step _ _ _ _ _ _ _ _ _ _ (by kernel_rfl)).trans (n150_5 rec d t1 t5 t27)
  show F150.labD (bodyOf Try.f150) tabR tyR true cs150 rec ((d + 1) + 1) 4 _ = _
  rw [Fn.labD_succ, p150_4]
  simp only [e5]
  rfl
theorem n150_3 (rec : Nat → SS → Option (RT.den F150.rs)) (d : Nat) (t1 : Int) (t5 : Int) (t12 : Bool) : F150.labD (bodyOf Try.f150) tabR tyR true cs150 rec (d + 3) 3 (st150_3 t1 t5 t12) = c150_3 t1 t5 t12 := by
  have e4 : ∀ t1 t5 t21, F150.labX (bodyOf Try.f150) tabR tyR true cs150 rec (d + 2) 4 (st150_4 t1 t5 t21) = c150_4 t1 t5 t21 := fun t1 t5 t21 => (Fn.labX_step _ _ _ _ _ _ _ _ _ _ (by kernel_rfl)).trans (n150_4 rec d t1 t5 t21)
  show F150.labD (bodyOf Try.f150) tabR tyR true cs150 rec ((d + 2) + 1) 3 _ = _
  rw [Fn.labD_succ, p150_3]
  simp only [e4]
  rfl
theorem n150_2 (rec : Nat → SS → Option (RT.den F150.rs)) (d : Nat) (t1 : Int) (t5 : Int) (t9 : Bool) : F150.labD (bodyOf Try.f150) tabR tyR true cs150 rec (d + 4) 2 (st150_2 t1 t5 t9) = c150_2 t1 t5 t9 := by
  have e3 : ∀ t1 t5 t12, F150.labX (bodyOf Try.f150) tabR tyR true cs150 rec (d + 3) 3 (st150_3 t1 t5 t12) = c150_3 t1 t5 t12 := fun t1 t5 t12 => (Fn.labX_step _ _ _ _ _ _ _ _ _ _ (by kernel_rfl)).trans (n150_3 rec d t1 t5 t12)
  show F150.labD (bodyOf Try.f150) tabR tyR true cs150 rec ((d + 3) + 1) 2 _ = _
  rw [Fn.labD_succ, p150_2]
  simp only [e3]
  rfl
theorem n150_1 (rec : Nat → SS → Option (RT.den F150.rs)) (d : Nat) (t1 : Int) (t5 : Int) (t6 : Bool) : F150.labD (bodyOf Try.f150) tabR tyR true cs150 rec (d + 5) 1 (st150_1 t1 t5 t6) = c150_1 t1 t5 t6 := by
  have e2 : ∀ t1 t5 t9, F150.labX (bodyOf Try.f150) tabR tyR true cs150 rec (d + 4) 2 (st150_2 t1 t5 t9) = c150_2 t1 t5 t9 := fun t1 t5 t9 => (Fn.labX_step _ _ _ _ _ _ _ _ _ _ (by kernel_rfl)).trans (n150_2 rec d t1 t5 t9)
  show F150.labD (bodyOf Try.f150) tabR tyR true cs150 rec ((d + 4) + 1) 1 _ = _
  rw [Fn.labD_succ, p150_1]
  simp only [e2]
  rfl
theorem w150 (x : PTs.den F150.ps) : F150.body (bodyOf Try.f150) tabR tyR true cs150 (F150.labX (bodyOf Try.f150) tabR tyR true cs150 (F150.labM (bodyOf Try.f150) tabR tyR true cs150 0) F150.D) x = o150_0 (c150_1) x.1 x.2.1 := by
  have e1 : ∀ t1 t5 t6, F150.labX (bodyOf Try.f150) tabR tyR true cs150 (F150.labM (bodyOf Try.f150) tabR tyR true cs150 0) 7 1 (st150_1 t1 t5 t6) = c150_1 t1 t5 t6 := fun t1 t5 t6 => (Fn.labX_step _ _ _ _ _ _ _ _ _ _ (by kernel_rfl)).trans (n150_1 (F150.labM (bodyOf Try.f150) tabR tyR true cs150 0) 2 t1 t5 t6)
  show F150.body (bodyOf Try.f150) tabR tyR true cs150 (F150.labX (bodyOf Try.f150) tabR tyR true cs150 (F150.labM (bodyOf Try.f150) tabR tyR true cs150 0) 7) x = _
  rw [p150_0]
  simp only [e1]
  try rfl
theorem call150 : Callable Try.prog 150 := callable_of Try.func150 (by kernel_rfl) (by kernel_rfl)
theorem ok150 : Cal.Ok Try.prog ⟨150, F150.ps, F150.rs, F150.fr, fun a => f150 a.1 a.2.1⟩ :=
  cal_of_fn F150 (code := bodyOf Try.f150) Try.func150 (by kernel_rfl) (by kernel_rfl) call150 htabR (cs := cs150) (fun c hc => by
      simp only [cs150, List.mem_cons, List.not_mem_nil, or_false] at hc
      rcases hc with rfl
      · exact ok165) (fun _ => mixed) (by kernel_rfl) (by kernel_rfl) (by decide) (fun x => ⟨0, w150 x⟩)
-- tranship/term.level
def o166_0 (a0 : Int) : Option Bool :=
  ifB (decide ((0 : Int) ≤ a0)) (
    some (decide (a0 ≤ (1000 : Int)))) (
    some false)
def f166 (a0 : Int) : Option Bool := o166_0 a0
def an166 : An := .z
def F166 : Fn := { f := 166, a := an166, vars := [.tmp 2], ps := [.sc .int], rs := [.sc .bool], own := false, fr := true, nt := 9, D := 2, loops := [] }
def cs166 : List Cal := []
theorem p166_0 (lab : Nat → SS → Option (RT.den F166.rs)) (x : PTs.den F166.ps) : F166.body (bodyOf Try.f166) tabR tyR true cs166 lab x = o166_0 x.1 := by kernel_rfl
theorem w166 (x : PTs.den F166.ps) : F166.body (bodyOf Try.f166) tabR tyR true cs166 (F166.labX (bodyOf Try.f166) tabR tyR true cs166 (F166.labM (bodyOf Try.f166) tabR tyR true cs166 0) F166.D) x = o166_0 x.1 := by
  show F166.body (bodyOf Try.f166) tabR tyR true cs166 (F166.labX (bodyOf Try.f166) tabR tyR true cs166 (F166.labM (bodyOf Try.f166) tabR tyR true cs166 0) 2) x = _
  rw [p166_0]
theorem call166 : Callable Try.prog 166 := callable_of Try.func166 (by kernel_rfl) (by kernel_rfl)
theorem ok166 : Cal.Ok Try.prog ⟨166, F166.ps, F166.rs, F166.fr, fun a => f166 a.1⟩ :=
  cal_of_fn F166 (code := bodyOf Try.f166) Try.func166 (by kernel_rfl) (by kernel_rfl) call166 htabR (cs := cs166) (fun c hc => by simp only [cs166, List.not_mem_nil] at hc) (fun _ => mixed) (by kernel_rfl) (by kernel_rfl) (by decide) (fun x => ⟨0, w166 x⟩)
-- tranship/term.numbers
def o151_0 (k1 : Tm → Int → Bool → Option Bool) (a0 : Tm) : Option Bool :=
  ifB (decide (a0.kind = (1 : Int))) (
    k1 a0 a0.kind (decide (a0.kind = (1 : Int)))) (
    ifB (decide (a0.kind = (10 : Int))) (
      k1 a0 a0.kind (decide (a0.kind = (10 : Int)))) (
      ifB (decide (a0.kind = (11 : Int))) (
        k1 a0 a0.kind (decide (a0.kind = (11 : Int)))) (
        k1 a0 a0.kind (decide (a0.kind = (12 : Int))))))
def o151_1 (k2 : Tm → Int → Bool → Option Bool) (t1 : Tm) (t4 : Int) (t5 : Bool) : Option Bool :=
  ifB t5 (
    (f166 t1.i).bind fun x1 =>
    ifB x1 (
      ifB (decide (t1.j = (0 : Int))) (
        some (decide (t1.n = (0 : Int)))) (
        some false)) (
      some false)) (
    ifB (decide (t4 = (2 : Int))) (
      ifB (decide ((0 : Int) ≤ t1.i)) (
        ifB (decide (t1.i ≤ (2147483647 : Int))) (
          ifB (decide (t1.j = (0 : Int))) (
            some (decide (t1.n = (0 : Int)))) (
            some false)) (
          some false)) (
        some false)) (
      ifB (decide (t4 = (3 : Int))) (
        k2 t1 t4 (decide (t4 = (3 : Int)))) (
        ifB (decide (t4 = (4 : Int))) (
          k2 t1 t4 (decide (t4 = (4 : Int)))) (
          ifB (decide (t4 = (5 : Int))) (
            k2 t1 t4 (decide (t4 = (5 : Int)))) (
            ifB (decide (t4 = (6 : Int))) (
              k2 t1 t4 (decide (t4 = (6 : Int)))) (
              ifB (decide (t4 = (7 : Int))) (
                k2 t1 t4 (decide (t4 = (7 : Int)))) (
                ifB (decide (t4 = (8 : Int))) (
                  k2 t1 t4 (decide (t4 = (8 : Int)))) (
                  k2 t1 t4 (decide (t4 = (9 : Int)))))))))))
def o151_2 (t1 : Tm) (t4 : Int) (t43 : Bool) : Option Bool :=
  ifB t43 (
    (f166 t1.i).bind fun x2 =>
    ifB x2 (
      (f166 t1.j).bind fun x3 =>
      ifB x3 (
        some (decide (t1.n = (0 : Int)))) (
        some false)) (
      some false)) (
    ifB (decide (t4 = (23 : Int))) (
      (f166 t1.i).bind fun x4 =>
      ifB x4 (
        (f166 t1.j).bind fun x5 =>
        some x5) (
        some false)) (
      ifB (decide (t1.i = (0 : Int))) (
        ifB (decide (t1.j = (0 : Int))) (
          some (decide (t1.n = (0 : Int)))) (
          some false)) (
        some false)))
def c151_2 (t1 : Tm) (t4 : Int) (t43 : Bool) : Option Bool :=
  o151_2 t1 t4 t43
def c151_1 (t1 : Tm) (t4 : Int) (t5 : Bool) : Option Bool :=
  o151_1 (c151_2) t1 t4 t5
def f151 (a0 : Tm) : Option Bool := o151_0 (c151_1) a0
def an151 : An := (.n none [] 0 .z (.n none [] 0 (.n none [] 0 .z (.n none [] 0 (.n (some 1) [(1, .ps 0 .tm false), (4, .one .c), (5, .one .c)] 1 .z (.n none [] 0 .z (.n none [] 0 .z (.n none [] 0 .z (.n (some 2) [(1, .ps 0 .tm false), (4, .one .c), (43, .one .c)] 1 .z .z))))) .z)) .z))
def F151 : Fn := { f := 151, a := an151, vars := [.tmp 2], ps := [.st .tm], rs := [.sc .bool], own := false, fr := true, nt := 87, D := 4, loops := [] }
def cs151 : List Cal := [⟨166, [.sc .int], [.sc .bool], true, fun a => f166 a.1⟩]
def st151_1 (t1 : Tm) (t4 : Int) (t5 : Bool) : SS := ⟨[(1, .v (.one (.ptr 0 0))), (4, .v (.one (.c (.int t4) true))), (5, .v (.one (.c (.bool t5) true)))], [(0, some (.bst .tm t1 false))], 1⟩
def st151_2 (t1 : Tm) (t4 : Int) (t43 : Bool) : SS := ⟨[(1, .v (.one (.ptr 0 0))), (4, .v (.one (.c (.int t4) true))), (43, .v (.one (.c (.bool t43) true)))], [(0, some (.bst .tm t1 false))], 1⟩
theorem p151_0 (lab : Nat → SS → Option (RT.den F151.rs)) (x : PTs.den F151.ps) : F151.body (bodyOf Try.f151) tabR tyR true cs151 lab x = o151_0 (fun t1 t4 t5 => lab 1 (st151_1 t1 t4 t5)) x.1 := by kernel_rfl
theorem p151_1 (lab : Nat → SS → Option (RT.den F151.rs)) (t1 : Tm) (t4 : Int) (t5 : Bool) : F151.at (bodyOf Try.f151) tabR tyR true cs151 lab 1 (st151_1 t1 t4 t5) = o151_1 (fun t1 t4 t43 => lab 2 (st151_2 t1 t4 t43)) t1 t4 t5 := by kernel_rfl
theorem p151_2 (lab : Nat → SS → Option (RT.den F151.rs)) (t1 : Tm) (t4 : Int) (t43 : Bool) : F151.at (bodyOf Try.f151) tabR tyR true cs151 lab 2 (st151_2 t1 t4 t43) = o151_2 t1 t4 t43 := by kernel_rfl
theorem n151_2 (rec : Nat → SS → Option (RT.den F151.rs)) (d : Nat) (t1 : Tm) (t4 : Int) (t43 : Bool) : F151.labD (bodyOf Try.f151) tabR tyR true cs151 rec (d + 1) 2 (st151_2 t1 t4 t43) = c151_2 t1 t4 t43 := by
  show F151.labD (bodyOf Try.f151) tabR tyR true cs151 rec (d + 1) 2 _ = _
  rw [Fn.labD_succ, p151_2]
  rfl
theorem n151_1 (rec : Nat → SS → Option (RT.den F151.rs)) (d : Nat) (t1 : Tm) (t4 : Int) (t5 : Bool) : F151.labD (bodyOf Try.f151) tabR tyR true cs151 rec (d + 2) 1 (st151_1 t1 t4 t5) = c151_1 t1 t4 t5 := by
  have e2 : ∀ t1 t4 t43, F151.labX (bodyOf Try.f151) tabR tyR true cs151 rec (d + 1) 2 (st151_2 t1 t4 t43) = c151_2 t1 t4 t43 := fun t1 t4 t43 => (Fn.labX_step _ _ _ _ _ _ _ _ _ _ (by kernel_rfl)).trans (n151_2 rec d t1 t4 t43)
  show F151.labD (bodyOf Try.f151) tabR tyR true cs151 rec ((d + 1) + 1) 1 _ = _
  rw [Fn.labD_succ, p151_1]
  simp only [e2]
  rfl
theorem w151 (x : PTs.den F151.ps) : F151.body (bodyOf Try.f151) tabR tyR true cs151 (F151.labX (bodyOf Try.f151) tabR tyR true cs151 (F151.labM (bodyOf Try.f151) tabR tyR true cs151 0) F151.D) x = o151_0 (c151_1) x.1 := by
  have e1 : ∀ t1 t4 t5, F151.labX (bodyOf Try.f151) tabR tyR true cs151 (F151.labM (bodyOf Try.f151) tabR tyR true cs151 0) 4 1 (st151_1 t1 t4 t5) = c151_1 t1 t4 t5 := fun t1 t4 t5 => (Fn.labX_step _ _ _ _ _ _ _ _ _ _ (by kernel_rfl)).trans (n151_1 (F151.labM (bodyOf Try.f151) tabR tyR true cs151 0) 2 t1 t4 t5)
  show F151.body (bodyOf Try.f151) tabR tyR true cs151 (F151.labX (bodyOf Try.f151) tabR tyR true cs151 (F151.labM (bodyOf Try.f151) tabR tyR true cs151 0) 4) x = _
  rw [p151_0]
  simp only [e1]
  try rfl
theorem call151 : Callable Try.prog 151 := callable_of Try.func151 (by kernel_rfl) (by kernel_rfl)
theorem ok151 : Cal.Ok Try.prog ⟨151, F151.ps, F151.rs, F151.fr, fun a => f151 a.1⟩ :=
  cal_of_fn F151 (code := bodyOf Try.f151) Try.func151 (by kernel_rfl) (by kernel_rfl) call151 htabR (cs := cs151) (fun c hc => by
      simp only [cs151, List.mem_cons, List.not_mem_nil, or_false] at hc
      rcases hc with rfl
      · exact ok166) (fun _ => mixed) (by kernel_rfl) (by kernel_rfl) (by decide) (fun x => ⟨0, w151 x⟩)
-- tranship/term.right
def o123_0 (s123 : Tm → Int → Option Bool) (n : Nat) (k1 : Tm → Int → Option Bool) (a0 : Tm) (a1 : Int) : Option Bool :=
  (f149 a0.kind).bind fun x1 =>
  ifB (!decide (a1 = (0 : Int))) (
    ifB (!decide (x1 = (0 : Int))) (
      ifB (!decide (x1 = a1)) (
        some false) (
        k1 a0 x1)) (
      k1 a0 x1)) (
    k1 a0 x1)
def o123_1 (s123 : Tm → Int → Option Bool) (n : Nat) (k2 : Tm → Int → Option Bool) (t2 : Tm) (t5 : Int) : Option Bool :=
  (f150 t2.kind t2.n).bind fun x2 =>
  ifB (!decide ((t2.kids.length : Int) = x2)) (
    some false) (
    (f151 t2).bind fun x3 =>
    ifB (!x3) (
      some false) (
      k2 t2 t5))
def o123_2 (s123 : Tm → Int → Option Bool) (n : Nat) (k3 : Tm → Int → (List Tm) → Int → Int → Option Bool) (t2 : Tm) (t5 : Int) : Option Bool :=
  k3 t2 t5 t2.kids (t2.kids.length : Int) (0 : Int)
def o123_3 (s123 : Tm → Int → Option Bool) (n : Nat) (k3 : Tm → Int → (List Tm) → Int → Int → Option Bool) (t2 : Tm) (t5 : Int) (t38 : List Tm) (t39 : Int) (t40 : Int) : Option Bool :=
  ifB (decide (t40 < t39)) (
    atI t38 t40 fun x4 =>
    ifB (decide (t2.kind = (12 : Int))) (
      ifB (decide (t40 = (2 : Int))) (
        (s123 x4 (2 : Int)).bind fun x5 =>
        ifB (!x5) (
          some false) (
          ckI (t40 + (1 : Int)) <|
          k3 t2 t5 t38 t39 (t40 + (1 : Int)))) (
        (s123 x4 t5).bind fun x6 =>
        ifB (!x6) (
          some false) (
          ckI (t40 + (1 : Int)) <|
          k3 t2 t5 t38 t39 (t40 + (1 : Int))))) (
      (s123 x4 t5).bind fun x7 =>
      ifB (!x7) (
        some false) (
        ckI (t40 + (1 : Int)) <|
        k3 t2 t5 t38 t39 (t40 + (1 : Int))))) (
    some true)
def c123_2 (s123 : Tm → Int → Option Bool) (n : Nat) (k3 : Tm → Int → (List Tm) → Int → Int → Option Bool) (t2 : Tm) (t5 : Int) : Option Bool :=
  o123_2 s123 n k3 t2 t5
def c123_1 (s123 : Tm → Int → Option Bool) (n : Nat) (k3 : Tm → Int → (List Tm) → Int → Int → Option Bool) (t2 : Tm) (t5 : Int) : Option Bool :=
  o123_1 s123 n (c123_2 s123 n k3) t2 t5
def l123_3 (s123 : Tm → Int → Option Bool) (n : Nat) : Nat → Tm → Int → (List Tm) → Int → Int → Option Bool
  | 0, _, _, _, _, _ => none
  | m + 1, t2, t5, t38, t39, t40 => o123_3 s123 n (l123_3 s123 n m) t2 t5 t38 t39 t40
def f123 : Nat → Tm → Int → Option Bool
  | 0, _, _ => none
  | n + 1, a0, a1 => o123_0 (f123 n) n (c123_1 (f123 n) n (l123_3 (f123 n) n n)) a0 a1
def an123 : An := (.n none [] 0 .z (.n none [] 0 .z (.n (some 1) [(2, .ps 0 .tm false), (5, .one .c)] 1 .z (.n (some 2) [(2, .ps 0 .tm false), (5, .one .c)] 1 .z (.n none [] 0 (.n none [] 0 .z (.n none [] 0 (.n (some 3) [(2, .ps 0 .tm false), (5, .one .c), (38, .one (.d .tm false)), (39, .one .c), (40, .one .c)] 1 .z .z) .z)) .z)))))
def F123 : Fn := { f := 123, a := an123, vars := [.tmp 4], ps := [.st .tm, .sc .int], rs := [.sc .bool], own := false, fr := true, nt := 58, D := 5, loops := [3] }
def cs123 (s123 : Tm → Int → Option Bool) (n : Nat) : List Cal := [⟨123, [.st .tm, .sc .int], [.sc .bool], true, fun a => s123 a.1 a.2.1⟩, ⟨149, [.sc .int], [.sc .int], true, fun a => f149 a.1⟩, ⟨150, [.sc .int, .sc .int], [.sc .int], true, fun a => f150 a.1 a.2.1⟩, ⟨151, [.st .tm], [.sc .bool], true, fun a => f151 a.1⟩]
def st123_1 (t2 : Tm) (t5 : Int) : SS := ⟨[(2, .v (.one (.ptr 0 0))), (5, .v (.one (.c (.int t5) true)))], [(0, some (.bst .tm t2 false))], 1⟩
def st123_2 (t2 : Tm) (t5 : Int) : SS := ⟨[(2, .v (.one (.ptr 0 0))), (5, .v (.one (.c (.int t5) true)))], [(0, some (.bst .tm t2 false))], 1⟩
def st123_3 (t2 : Tm) (t5 : Int) (t38 : List Tm) (t39 : Int) (t40 : Int) : SS := ⟨[(2, .v (.one (.ptr 0 0))), (5, .v (.one (.c (.int t5) true))), (38, .v (.one (.c (.sl .tm t38) false))), (39, .v (.one (.c (.int t39) true))), (40, .v (.one (.c (.int t40) true)))], [(0, some (.bst .tm t2 false))], 1⟩
theorem p123_0 (s123 : Tm → Int → Option Bool) (n : Nat) (lab : Nat → SS → Option (RT.den F123.rs)) (x : PTs.den F123.ps) : F123.body (bodyOf Try.f123) tabR tyR true (cs123 s123 n) lab x = o123_0 s123 n (fun t2 t5 => lab 1 (st123_1 t2 t5)) x.1 x.2.1 := by kernel_rfl
theorem p123_1 (s123 : Tm → Int → Option Bool) (n : Nat) (lab : Nat → SS → Option (RT.den F123.rs)) (t2 : Tm) (t5 : Int) : F123.at (bodyOf Try.f123) tabR tyR true (cs123 s123 n) lab 1 (st123_1 t2 t5) = o123_1 s123 n (fun t2 t5 => lab 2 (st123_2 t2 t5)) t2 t5 := by kernel_rfl
theorem p123_2 (s123 : Tm → Int → Option Bool) (n : Nat) (lab : Nat → SS → Option (RT.den F123.rs)) (t2 : Tm) (t5 : Int) : F123.at (bodyOf Try.f123) tabR tyR true (cs123 s123 n) lab 2 (st123_2 t2 t5) = o123_2 s123 n (fun t2 t5 t38 t39 t40 => lab 3 (st123_3 t2 t5 t38 t39 t40)) t2 t5 := by kernel_rfl
theorem p123_3 (s123 : Tm → Int → Option Bool) (n : Nat) (lab : Nat → SS → Option (RT.den F123.rs)) (t2 : Tm) (t5 : Int) (t38 : List Tm) (t39 : Int) (t40 : Int) : F123.at (bodyOf Try.f123) tabR tyR true (cs123 s123 n) lab 3 (st123_3 t2 t5 t38 t39 t40) = o123_3 s123 n (fun t2 t5 t38 t39 t40 => lab 3 (st123_3 t2 t5 t38 t39 t40)) t2 t5 t38 t39 t40 := by kernel_rfl
theorem n123_2 (s123 : Tm → Int → Option Bool) (n : Nat) (rec : Nat → SS → Option (RT.den F123.rs)) (k3 : Tm → Int → (List Tm) → Int → Int → Option Bool) (h3 : ∀ t2 t5 t38 t39 t40, rec 3 (st123_3 t2 t5 t38 t39 t40) = k3 t2 t5 t38 t39 t40) (d : Nat) (t2 : Tm) (t5 : Int) : F123.labD (bodyOf Try.f123) tabR tyR true (cs123 s123 n) rec (d + 1) 2 (st123_2 t2 t5) = c123_2 s123 n k3 t2 t5 := by
  have e3 : ∀ t2 t5 t38 t39 t40, F123.labX (bodyOf Try.f123) tabR tyR true (cs123 s123 n) rec d 3 (st123_3 t2 t5 t38 t39 t40) = k3 t2 t5 t38 t39 t40 := fun t2 t5 t38 t39 t40 => (Fn.labX_loop _ _ _ _ _ _ _ _ _ _ (by kernel_rfl)).trans (h3 t2 t5 t38 t39 t40)
  show F123.labD (bodyOf Try.f123) tabR tyR true (cs123 s123 n) rec (d + 1) 2 _ = _
  rw [Fn.labD_succ, p123_2]
  simp only [e3]
  rfl
theorem n123_1 (s123 : Tm → Int → Option Bool) (n : Nat) (rec : Nat → SS → Option (RT.den F123.rs)) (k3 : Tm → Int → (List Tm) → Int → Int → Option Bool) (h3 : ∀ t2 t5 t38 t39 t40, rec 3 (st123_3 t2 t5 t38 t39 t40) = k3 t2 t5 t38 t39 t40) (d : Nat) (t2 : Tm) (t5 : Int) : F123.labD (bodyOf Try.f123) tabR tyR true (cs123 s123 n) rec (d + 2) 1 (st123_1 t2 t5) = c123_1 s123 n k3 t2 t5 := by
  have e2 : ∀ t2 t5, F123.labX (bodyOf Try.f123) tabR tyR true (cs123 s123 n) rec (d + 1) 2 (st123_2 t2 t5) = c123_2 s123 n k3 t2 t5 := fun t2 t5 => (Fn.labX_step _ _ _ _ _ _ _ _ _ _ (by kernel_rfl)).trans (n123_2 s123 n rec k3 h3 d t2 t5)
  show F123.labD (bodyOf Try.f123) tabR tyR true (cs123 s123 n) rec ((d + 1) + 1) 1 _ = _
  rw [Fn.labD_succ, p123_1]
  simp only [e2]
  rfl
theorem m123_3 (s123 : Tm → Int → Option Bool) (n : Nat) : ∀ m : Nat, (∀ t2 t5 t38 t39 t40, F123.labM (bodyOf Try.f123) tabR tyR true (cs123 s123 n) m 3 (st123_3 t2 t5 t38 t39 t40) = l123_3 s123 n m t2 t5 t38 t39 t40) := by
  intro m
  induction m with
  | zero => exact fun _ _ _ _ _ => rfl
  | succ m ih =>
    intro t2 t5 t38 t39 t40
    have e3 : ∀ t2 t5 t38 t39 t40, F123.labX (bodyOf Try.f123) tabR tyR true (cs123 s123 n) (F123.labM (bodyOf Try.f123) tabR tyR true (cs123 s123 n) m) 4 3 (st123_3 t2 t5 t38 t39 t40) = (l123_3 s123 n m) t2 t5 t38 t39 t40 := fun t2 t5 t38 t39 t40 => (Fn.labX_loop _ _ _ _ _ _ _ _ _ _ (by kernel_rfl)).trans (ih t2 t5 t38 t39 t40)
    rw [Fn.labM_succ]
    show F123.labD (bodyOf Try.f123) tabR tyR true (cs123 s123 n) (F123.labM (bodyOf Try.f123) tabR tyR true (cs123 s123 n) m) (4 + 1) 3 _ = _
    rw [Fn.labD_succ, p123_3]
    simp only [e3]
    rfl
theorem w123 (s123 : Tm → Int → Option Bool) (n : Nat) (x : PTs.den F123.ps) : F123.body (bodyOf Try.f123) tabR tyR true (cs123 s123 n) (F123.labX (bodyOf Try.f123) tabR tyR true (cs123 s123 n) (F123.labM (bodyOf Try.f123) tabR tyR true (cs123 s123 n) n) F123.D) x = o123_0 s123 n (c123_1 s123 n (l123_3 s123 n n)) x.1 x.2.1 := by
  have e1 : ∀ t2 t5, F123.labX (bodyOf Try.f123) tabR tyR true (cs123 s123 n) (F123.labM (bodyOf Try.f123) tabR tyR true (cs123 s123 n) n) 5 1 (st123_1 t2 t5) = c123_1 s123 n (l123_3 s123 n n) t2 t5 := fun t2 t5 => (Fn.labX_step _ _ _ _ _ _ _ _ _ _ (by kernel_rfl)).trans (n123_1 s123 n (F123.labM (bodyOf Try.f123) tabR tyR true (cs123 s123 n) n) (l123_3 s123 n n) (m123_3 s123 n n) 3 t2 t5)
  show F123.body (bodyOf Try.f123) tabR tyR true (cs123 s123 n) (F123.labX (bodyOf Try.f123) tabR tyR true (cs123 s123 n) (F123.labM (bodyOf Try.f123) tabR tyR true (cs123 s123 n) n) 5) x = _
  rw [p123_0]
  simp only [e1]
  try rfl
theorem call123 : Callable Try.prog 123 := callable_of Try.func123 (by kernel_rfl) (by kernel_rfl)
theorem okr123 : ∀ n : Nat, Cal.Ok Try.prog ⟨123, F123.ps, F123.rs, F123.fr, fun a => f123 n a.1 a.2.1⟩
  | 0 => ⟨by kernel_rfl, fun a r h => by cases h⟩
  | n + 1 => cal_of_fn F123 (code := bodyOf Try.f123) Try.func123 (by kernel_rfl) (by kernel_rfl) call123 htabR (cs := cs123 (f123 n) n) (fun c hc => by
      simp only [cs123, List.mem_cons, List.not_mem_nil, or_false] at hc
      rcases hc with rfl | rfl | rfl | rfl
      · exact (okr123 n)
      · exact ok149
      · exact ok150
      · exact ok151) (fun _ => mixed) (by kernel_rfl) (by kernel_rfl) (by decide) (fun x => ⟨n, w123 (f123 n) n x⟩)
theorem ok123 (n : Nat) : Cal.Ok Try.prog ⟨123, F123.ps, F123.rs, F123.fr, fun a => f123 n a.1 a.2.1⟩ := (okr123 n)
-- tranship/term.Marked
def o79_0 (n : Nat) (a0 : Tm) : Option Bool :=
  (f123 n a0 (1 : Int)).bind fun x1 =>
  some x1
def f79 (n : Nat) (a0 : Tm) : Option Bool := o79_0 n a0
def an79 : An := .z
def F79 : Fn := { f := 79, a := an79, vars := [.tmp 2], ps := [.st .tm], rs := [.sc .bool], own := false, fr := true, nt := 5, D := 2, loops := [] }
def cs79 (n : Nat) : List Cal := [⟨123, [.st .tm, .sc .int], [.sc .bool], true, fun a => f123 n a.1 a.2.1⟩]
theorem p79_0 (n : Nat) (lab : Nat → SS → Option (RT.den F79.rs)) (x : PTs.den F79.ps) : F79.body (bodyOf Try.f79) tabR tyR true (cs79 n) lab x = o79_0 n x.1 := by kernel_rfl
theorem w79 (n : Nat) (x : PTs.den F79.ps) : F79.body (bodyOf Try.f79) tabR tyR true (cs79 n) (F79.labX (bodyOf Try.f79) tabR tyR true (cs79 n) (F79.labM (bodyOf Try.f79) tabR tyR true (cs79 n) 0) F79.D) x = o79_0 n x.1 := by
  show F79.body (bodyOf Try.f79) tabR tyR true (cs79 n) (F79.labX (bodyOf Try.f79) tabR tyR true (cs79 n) (F79.labM (bodyOf Try.f79) tabR tyR true (cs79 n) 0) 2) x = _
  rw [p79_0]
theorem call79 : Callable Try.prog 79 := callable_of Try.func79 (by kernel_rfl) (by kernel_rfl)
theorem ok79 (n : Nat) : Cal.Ok Try.prog ⟨79, F79.ps, F79.rs, F79.fr, fun a => f79 n a.1⟩ :=
  cal_of_fn F79 (code := bodyOf Try.f79) Try.func79 (by kernel_rfl) (by kernel_rfl) call79 htabR (cs := cs79 n) (fun c hc => by
      simp only [cs79, List.mem_cons, List.not_mem_nil, or_false] at hc
      rcases hc with rfl
      · exact ok123 n) (fun _ => mixed) (by kernel_rfl) (by kernel_rfl) (by decide) (fun x => ⟨0, w79 n x⟩)
-- tranship/transhipkeep.Same, tranship/transhipkeep.Terms
def o23_0 (s23 : Tm → Tm → Option Bool) (s49 : (List Tm) → (List Tm) → Option Bool) (n : Nat) (a0 : Tm) (a1 : Tm) : Option Bool :=
  ifB (decide (a0.kind = a1.kind)) (
    ifB (decide (a0.i = a1.i)) (
      ifB (decide (a0.j = a1.j)) (
        ifB (decide (a0.n = a1.n)) (
          (s49 a0.kids a1.kids).bind fun x1 =>
          some x1) (
          some false)) (
        some false)) (
      some false)) (
    some false)
def o49_0 (s23 : Tm → Tm → Option Bool) (s49 : (List Tm) → (List Tm) → Option Bool) (n : Nat) (k1 : (List Tm) → (List Tm) → Int → Option Bool) (a0 : List Tm) (a1 : List Tm) : Option Bool :=
  ifB (!decide ((a0.length : Int) = (a1.length : Int))) (
    some false) (
    k1 a0 a1 (0 : Int))
def o49_1 (s23 : Tm → Tm → Option Bool) (s49 : (List Tm) → (List Tm) → Option Bool) (n : Nat) (k1 : (List Tm) → (List Tm) → Int → Option Bool) (t0 : List Tm) (t1 : List Tm) (t5 : Int) : Option Bool :=
  ifB (decide (t5 < (t0.length : Int))) (
    atI t0 t5 fun x1 =>
    atI t1 t5 fun x2 =>
    (s23 x1 x2).bind fun x3 =>
    ifB (!x3) (
      some false) (
      ckI (t5 + (1 : Int)) <|
      k1 t0 t1 (t5 + (1 : Int)))) (
    some true)
def l49_1 (s23 : Tm → Tm → Option Bool) (s49 : (List Tm) → (List Tm) → Option Bool) (n : Nat) : Nat → (List Tm) → (List Tm) → Int → Option Bool
  | 0, _, _, _ => none
  | m + 1, t0, t1, t5 => o49_1 s23 s49 n (l49_1 s23 s49 n m) t0 t1 t5
mutual
def f23 : Nat → Tm → Tm → Option Bool
  | 0, _, _ => none
  | n + 1, a0, a1 => o23_0 (f23 n) (f49 n) n a0 a1
def f49 : Nat → (List Tm) → (List Tm) → Option Bool
  | 0, _, _ => none
  | n + 1, a0, a1 => o49_0 (f23 n) (f49 n) n (l49_1 (f23 n) (f49 n) n n) a0 a1
end
def an23 : An := .z
def F23 : Fn := { f := 23, a := an23, vars := [.tmp 4], ps := [.st .tm, .st .tm], rs := [.sc .bool], own := false, fr := true, nt := 38, D := 2, loops := [] }
def cs23 (s23 : Tm → Tm → Option Bool) (s49 : (List Tm) → (List Tm) → Option Bool) (n : Nat) : List Cal := [⟨49, [.sl .tm, .sl .tm], [.sc .bool], true, fun a => s49 a.1 a.2.1⟩]
theorem p23_0 (s23 : Tm → Tm → Option Bool) (s49 : (List Tm) → (List Tm) → Option Bool) (n : Nat) (lab : Nat → SS → Option (RT.den F23.rs)) (x : PTs.den F23.ps) : F23.body (bodyOf Try.f23) tabR tyR true (cs23 s23 s49 n) lab x = o23_0 s23 s49 n x.1 x.2.1 := by kernel_rfl
theorem w23 (s23 : Tm → Tm → Option Bool) (s49 : (List Tm) → (List Tm) → Option Bool) (n : Nat) (x : PTs.den F23.ps) : F23.body (bodyOf Try.f23) tabR tyR true (cs23 s23 s49 n) (F23.labX (bodyOf Try.f23) tabR tyR true (cs23 s23 s49 n) (F23.labM (bodyOf Try.f23) tabR tyR true (cs23 s23 s49 n) 0) F23.D) x = o23_0 s23 s49 n x.1 x.2.1 := by
  show F23.body (bodyOf Try.f23) tabR tyR true (cs23 s23 s49 n) (F23.labX (bodyOf Try.f23) tabR tyR true (cs23 s23 s49 n) (F23.labM (bodyOf Try.f23) tabR tyR true (cs23 s23 s49 n) 0) 2) x = _
  rw [p23_0]
theorem call23 : Callable Try.prog 23 := callable_of Try.func23 (by kernel_rfl) (by kernel_rfl)
def an49 : An := (.n none [] 0 .z (.n none [] 0 .z (.n none [] 0 (.n none [] 0 .z (.n none [] 0 (.n (some 1) [(0, .one (.d .tm false)), (1, .one (.d .tm false)), (5, .one .c)] 0 .z .z) .z)) .z)))
def F49 : Fn := { f := 49, a := an49, vars := [.tmp 4], ps := [.sl .tm, .sl .tm], rs := [.sc .bool], own := false, fr := true, nt := 27, D := 3, loops := [1] }
def cs49 (s23 : Tm → Tm → Option Bool) (s49 : (List Tm) → (List Tm) → Option Bool) (n : Nat) : List Cal := [⟨23, [.st .tm, .st .tm], [.sc .bool], true, fun a => s23 a.1 a.2.1⟩]
def st49_1 (t0 : List Tm) (t1 : List Tm) (t5 : Int) : SS := ⟨[(0, .v (.one (.c (.sl .tm t0) false))), (1, .v (.one (.c (.sl .tm t1) false))), (5, .v (.one (.c (.int t5) true)))], [], 0⟩
theorem p49_0 (s23 : Tm → Tm → Option Bool) (s49 : (List Tm) → (List Tm) → Option Bool) (n : Nat) (lab : Nat → SS → Option (RT.den F49.rs)) (x : PTs.den F49.ps) : F49.body (bodyOf Try.f49) tabR tyR true (cs49 s23 s49 n) lab x = o49_0 s23 s49 n (fun t0 t1 t5 => lab 1 (st49_1 t0 t1 t5)) x.1 x.2.1 := by kernel_rfl
theorem p49_1 (s23 : Tm → Tm → Option Bool) (s49 : (List Tm) → (List Tm) → Option Bool) (n : Nat) (lab : Nat → SS → Option (RT.den F49.rs)) (t0 : List Tm) (t1 : List Tm) (t5 : Int) : F49.at (bodyOf Try.f49) tabR tyR true (cs49 s23 s49 n) lab 1 (st49_1 t0 t1 t5) = o49_1 s23 s49 n (fun t0 t1 t5 => lab 1 (st49_1 t0 t1 t5)) t0 t1 t5 := by kernel_rfl
theorem m49_1 (s23 : Tm → Tm → Option Bool) (s49 : (List Tm) → (List Tm) → Option Bool) (n : Nat) : ∀ m : Nat, (∀ t0 t1 t5, F49.labM (bodyOf Try.f49) tabR tyR true (cs49 s23 s49 n) m 1 (st49_1 t0 t1 t5) = l49_1 s23 s49 n m t0 t1 t5) := by
  intro m
  induction m with
  | zero => exact fun _ _ _ => rfl
  | succ m ih =>
    intro t0 t1 t5
    have e1 : ∀ t0 t1 t5, F49.labX (bodyOf Try.f49) tabR tyR true (cs49 s23 s49 n) (F49.labM (bodyOf Try.f49) tabR tyR true (cs49 s23 s49 n) m) 2 1 (st49_1 t0 t1 t5) = (l49_1 s23 s49 n m) t0 t1 t5 := fun t0 t1 t5 => (Fn.labX_loop _ _ _ _ _ _ _ _ _ _ (by kernel_rfl)).trans (ih t0 t1 t5)
    rw [Fn.labM_succ]
    show F49.labD (bodyOf Try.f49) tabR tyR true (cs49 s23 s49 n) (F49.labM (bodyOf Try.f49) tabR tyR true (cs49 s23 s49 n) m) (2 + 1) 1 _ = _
    rw [Fn.labD_succ, p49_1]
    simp only [e1]
    rfl
theorem w49 (s23 : Tm → Tm → Option Bool) (s49 : (List Tm) → (List Tm) → Option Bool) (n : Nat) (x : PTs.den F49.ps) : F49.body (bodyOf Try.f49) tabR tyR true (cs49 s23 s49 n) (F49.labX (bodyOf Try.f49) tabR tyR true (cs49 s23 s49 n) (F49.labM (bodyOf Try.f49) tabR tyR true (cs49 s23 s49 n) n) F49.D) x = o49_0 s23 s49 n (l49_1 s23 s49 n n) x.1 x.2.1 := by
  have e1 : ∀ t0 t1 t5, F49.labX (bodyOf Try.f49) tabR tyR true (cs49 s23 s49 n) (F49.labM (bodyOf Try.f49) tabR tyR true (cs49 s23 s49 n) n) 3 1 (st49_1 t0 t1 t5) = (l49_1 s23 s49 n n) t0 t1 t5 := fun t0 t1 t5 => (Fn.labX_loop _ _ _ _ _ _ _ _ _ _ (by kernel_rfl)).trans ((m49_1 s23 s49 n n) t0 t1 t5)
  show F49.body (bodyOf Try.f49) tabR tyR true (cs49 s23 s49 n) (F49.labX (bodyOf Try.f49) tabR tyR true (cs49 s23 s49 n) (F49.labM (bodyOf Try.f49) tabR tyR true (cs49 s23 s49 n) n) 3) x = _
  rw [p49_0]
  simp only [e1]
  try rfl
theorem call49 : Callable Try.prog 49 := callable_of Try.func49 (by kernel_rfl) (by kernel_rfl)
theorem okr23 : ∀ n : Nat, Cal.Ok Try.prog ⟨23, F23.ps, F23.rs, F23.fr, fun a => f23 n a.1 a.2.1⟩ ∧ Cal.Ok Try.prog ⟨49, F49.ps, F49.rs, F49.fr, fun a => f49 n a.1 a.2.1⟩
  | 0 => ⟨⟨by kernel_rfl, fun a r h => by cases h⟩, ⟨by kernel_rfl, fun a r h => by cases h⟩⟩
  | n + 1 => ⟨cal_of_fn F23 (code := bodyOf Try.f23) Try.func23 (by kernel_rfl) (by kernel_rfl) call23 htabR (cs := cs23 (f23 n) (f49 n) n) (fun c hc => by
      simp only [cs23, List.mem_cons, List.not_mem_nil, or_false] at hc
      rcases hc with rfl
      · exact (okr23 n).2) (fun _ => mixed) (by kernel_rfl) (by kernel_rfl) (by decide) (fun x => ⟨0, w23 (f23 n) (f49 n) n x⟩),
    cal_of_fn F49 (code := bodyOf Try.f49) Try.func49 (by kernel_rfl) (by kernel_rfl) call49 htabR (cs := cs49 (f23 n) (f49 n) n) (fun c hc => by
      simp only [cs49, List.mem_cons, List.not_mem_nil, or_false] at hc
      rcases hc with rfl
      · exact (okr23 n).1) (fun _ => mixed) (by kernel_rfl) (by kernel_rfl) (by decide) (fun x => ⟨n, w49 (f23 n) (f49 n) n x⟩)⟩
theorem ok23 (n : Nat) : Cal.Ok Try.prog ⟨23, F23.ps, F23.rs, F23.fr, fun a => f23 n a.1 a.2.1⟩ := (okr23 n).1
-- tranship/transhipref04.Count
-- tranship/bare.Same
-- tranship/term.Right
def o87_0 (n : Nat) (a0 : Tm) : Option Bool :=
  (f123 n a0 (0 : Int)).bind fun x1 =>
  some x1
def f87 (n : Nat) (a0 : Tm) : Option Bool := o87_0 n a0
def an87 : An := .z
def F87 : Fn := { f := 87, a := an87, vars := [.tmp 2], ps := [.st .tm], rs := [.sc .bool], own := false, fr := true, nt := 5, D := 2, loops := [] }
def cs87 (n : Nat) : List Cal := [⟨123, [.st .tm, .sc .int], [.sc .bool], true, fun a => f123 n a.1 a.2.1⟩]
theorem p87_0 (n : Nat) (lab : Nat → SS → Option (RT.den F87.rs)) (x : PTs.den F87.ps) : F87.body (bodyOf Try.f87) tabR tyR true (cs87 n) lab x = o87_0 n x.1 := by kernel_rfl
theorem w87 (n : Nat) (x : PTs.den F87.ps) : F87.body (bodyOf Try.f87) tabR tyR true (cs87 n) (F87.labX (bodyOf Try.f87) tabR tyR true (cs87 n) (F87.labM (bodyOf Try.f87) tabR tyR true (cs87 n) 0) F87.D) x = o87_0 n x.1 := by
  show F87.body (bodyOf Try.f87) tabR tyR true (cs87 n) (F87.labX (bodyOf Try.f87) tabR tyR true (cs87 n) (F87.labM (bodyOf Try.f87) tabR tyR true (cs87 n) 0) 2) x = _
  rw [p87_0]
theorem call87 : Callable Try.prog 87 := callable_of Try.func87 (by kernel_rfl) (by kernel_rfl)
theorem ok87 (n : Nat) : Cal.Ok Try.prog ⟨87, F87.ps, F87.rs, F87.fr, fun a => f87 n a.1⟩ :=
  cal_of_fn F87 (code := bodyOf Try.f87) Try.func87 (by kernel_rfl) (by kernel_rfl) call87 htabR (cs := cs87 n) (fun c hc => by
      simp only [cs87, List.mem_cons, List.not_mem_nil, or_false] at hc
      rcases hc with rfl
      · exact ok123 n) (fun _ => mixed) (by kernel_rfl) (by kernel_rfl) (by decide) (fun x => ⟨0, w87 n x⟩)
-- tranship/bare.Copy
def o102_0 (s102 : Tm → Option Tm) (n : Nat) (k1 : Tm → Int → Int → Int → Int → (List Tm) → (List Tm) → Int → Int → Option Tm) (a0 : Tm) : Option Tm :=
  ifB (decide ((a0.kids.length : Int) = (0 : Int))) (
    some (Tm.mk a0.kind a0.i a0.j a0.n ([] : List Tm))) (
    ckB (decide (0 ≤ (a0.kids.length : Int)) && (decide ((a0.kids.length : Int) ≤ (a0.kids.length : Int)) && decide ((56 : Nat) * (a0.kids.length : Int) ≤ 281474976710656))) <|
    k1 a0 (0 : Int) (0 : Int) (0 : Int) (0 : Int) (List.replicate (a0.kids.length : Int).toNat (Tm.mk (0 : Int) (0 : Int) (0 : Int) (0 : Int) ([] : List Tm))) a0.kids (a0.kids.length : Int) (0 : Int))
def o102_1 (s102 : Tm → Option Tm) (n : Nat) (k1 : Tm → Int → Int → Int → Int → (List Tm) → (List Tm) → Int → Int → Option Tm) (t1 : Tm) (t2_0 : Int) (t2_1 : Int) (t2_2 : Int) (t2_3 : Int) (t3 : List Tm) (t17 : List Tm) (t18 : Int) (t19 : Int) : Option Tm :=
  ifB (decide (t19 < t18)) (
    atI t17 t19 fun x1 =>
    (s102 x1).bind fun x2 =>
    ckB (decide (0 ≤ t19) && decide (t19 < t3.length)) <|
    ckB (decide (t19.toNat < t3.length)) <|
    ckI (t19 + (1 : Int)) <|
    k1 t1 t2_0 t2_1 t2_2 t2_3 (t3.set t19.toNat (Tm.mk x2.kind x2.i x2.j x2.n x2.kids)) t17 t18 (t19 + (1 : Int))) (
    some (Tm.mk t1.kind t1.i t1.j t1.n t3))
def l102_1 (s102 : Tm → Option Tm) (n : Nat) : Nat → Tm → Int → Int → Int → Int → (List Tm) → (List Tm) → Int → Int → Option Tm
  | 0, _, _, _, _, _, _, _, _, _ => none
  | m + 1, t1, t2_0, t2_1, t2_2, t2_3, t3, t17, t18, t19 => o102_1 s102 n (l102_1 s102 n m) t1 t2_0 t2_1 t2_2 t2_3 t3 t17 t18 t19
def f102 : Nat → Tm → Option Tm
  | 0, _ => none
  | n + 1, a0 => o102_0 (f102 n) n (l102_1 (f102 n) n n) a0
def an102 : An := (.n none [] 0 .z (.n none [] 0 .z (.n none [] 0 .z (.n none [] 0 (.n none [] 0 .z (.n none [] 0 (.n (some 1) [(1, .ps 0 .tm false), (2, .p 1 [.c, .c, .c, .c, .k]), (3, .one (.r 2 24 .tm true)), (17, .one (.d .tm false)), (18, .one .c), (19, .one .c)] 3 .z .z) .z)) .z))))
def F102 : Fn := { f := 102, a := an102, vars := [.cell 2 24], ps := [.st .tm], rs := [.st .tm], own := false, fr := true, nt := 33, D := 3, loops := [1] }
def cs102 (s102 : Tm → Option Tm) (n : Nat) : List Cal := [⟨102, [.st .tm], [.st .tm], true, fun a => s102 a.1⟩]
def st102_1 (t1 : Tm) (t2_0 : Int) (t2_1 : Int) (t2_2 : Int) (t2_3 : Int) (t3 : List Tm) (t17 : List Tm) (t18 : Int) (t19 : Int) : SS := ⟨[(1, .v (.one (.ptr 0 0))), (2, .v (.one (.ptr 1 0))), (3, .v (.one (.arr 2))), (17, .v (.one (.c (.sl .tm t17) false))), (18, .v (.one (.c (.int t18) true))), (19, .v (.one (.c (.int t19) true)))], [(0, some (.bst .tm t1 false)), (1, some (.box [.c (.int t2_0) true, .c (.int t2_1) true, .c (.int t2_2) true, .c (.int t2_3) true, .nils])), (2, some (.row 24 .tm t3 true))], 3⟩
theorem p102_0 (s102 : Tm → Option Tm) (n : Nat) (lab : Nat → SS → Option (RT.den F102.rs)) (x : PTs.den F102.ps) : F102.body (bodyOf Try.f102) tabR tyR true (cs102 s102 n) lab x = o102_0 s102 n (fun t1 t2_0 t2_1 t2_2 t2_3 t3 t17 t18 t19 => lab 1 (st102_1 t1 t2_0 t2_1 t2_2 t2_3 t3 t17 t18 t19)) x.1 := by kernel_rfl
theorem p102_1 (s102 : Tm → Option Tm) (n : Nat) (lab : Nat → SS → Option (RT.den F102.rs)) (t1 : Tm) (t2_0 : Int) (t2_1 : Int) (t2_2 : Int) (t2_3 : Int) (t3 : List Tm) (t17 : List Tm) (t18 : Int) (t19 : Int) : F102.at (bodyOf Try.f102) tabR tyR true (cs102 s102 n) lab 1 (st102_1 t1 t2_0 t2_1 t2_2 t2_3 t3 t17 t18 t19) = o102_1 s102 n (fun t1 t2_0 t2_1 t2_2 t2_3 t3 t17 t18 t19 => lab 1 (st102_1 t1 t2_0 t2_1 t2_2 t2_3 t3 t17 t18 t19)) t1 t2_0 t2_1 t2_2 t2_3 t3 t17 t18 t19 := by kernel_rfl
theorem m102_1 (s102 : Tm → Option Tm) (n : Nat) : ∀ m : Nat, (∀ t1 t2_0 t2_1 t2_2 t2_3 t3 t17 t18 t19, F102.labM (bodyOf Try.f102) tabR tyR true (cs102 s102 n) m 1 (st102_1 t1 t2_0 t2_1 t2_2 t2_3 t3 t17 t18 t19) = l102_1 s102 n m t1 t2_0 t2_1 t2_2 t2_3 t3 t17 t18 t19) := by
  intro m
  induction m with
  | zero => exact fun _ _ _ _ _ _ _ _ _ => rfl
  | succ m ih =>
    intro t1 t2_0 t2_1 t2_2 t2_3 t3 t17 t18 t19
    have e1 : ∀ t1 t2_0 t2_1 t2_2 t2_3 t3 t17 t18 t19, F102.labX (bodyOf Try.f102) tabR tyR true (cs102 s102 n) (F102.labM (bodyOf Try.f102) tabR tyR true (cs102 s102 n) m) 2 1 (st102_1 t1 t2_0 t2_1 t2_2 t2_3 t3 t17 t18 t19) = (l102_1 s102 n m) t1 t2_0 t2_1 t2_2 t2_3 t3 t17 t18 t19 := fun t1 t2_0 t2_1 t2_2 t2_3 t3 t17 t18 t19 => (Fn.labX_loop _ _ _ _ _ _ _ _ _ _ (by kernel_rfl)).trans (ih t1 t2_0 t2_1 t2_2 t2_3 t3 t17 t18 t19)
    rw [Fn.labM_succ]
    show F102.labD (bodyOf Try.f102) tabR tyR true (cs102 s102 n) (F102.labM (bodyOf Try.f102) tabR tyR true (cs102 s102 n) m) (2 + 1) 1 _ = _
    rw [Fn.labD_succ, p102_1]
    simp only [e1]
    rfl
theorem w102 (s102 : Tm → Option Tm) (n : Nat) (x : PTs.den F102.ps) : F102.body (bodyOf Try.f102) tabR tyR true (cs102 s102 n) (F102.labX (bodyOf Try.f102) tabR tyR true (cs102 s102 n) (F102.labM (bodyOf Try.f102) tabR tyR true (cs102 s102 n) n) F102.D) x = o102_0 s102 n (l102_1 s102 n n) x.1 := by
  have e1 : ∀ t1 t2_0 t2_1 t2_2 t2_3 t3 t17 t18 t19, F102.labX (bodyOf Try.f102) tabR tyR true (cs102 s102 n) (F102.labM (bodyOf Try.f102) tabR tyR true (cs102 s102 n) n) 3 1 (st102_1 t1 t2_0 t2_1 t2_2 t2_3 t3 t17 t18 t19) = (l102_1 s102 n n) t1 t2_0 t2_1 t2_2 t2_3 t3 t17 t18 t19 := fun t1 t2_0 t2_1 t2_2 t2_3 t3 t17 t18 t19 => (Fn.labX_loop _ _ _ _ _ _ _ _ _ _ (by kernel_rfl)).trans ((m102_1 s102 n n) t1 t2_0 t2_1 t2_2 t2_3 t3 t17 t18 t19)
  show F102.body (bodyOf Try.f102) tabR tyR true (cs102 s102 n) (F102.labX (bodyOf Try.f102) tabR tyR true (cs102 s102 n) (F102.labM (bodyOf Try.f102) tabR tyR true (cs102 s102 n) n) 3) x = _
  rw [p102_0]
  simp only [e1]
  try rfl
theorem call102 : Callable Try.prog 102 := callable_of Try.func102 (by kernel_rfl) (by kernel_rfl)
theorem okr102 : ∀ n : Nat, Cal.Ok Try.prog ⟨102, F102.ps, F102.rs, F102.fr, fun a => f102 n a.1⟩
  | 0 => ⟨by kernel_rfl, fun a r h => by cases h⟩
  | n + 1 => cal_of_fn F102 (code := bodyOf Try.f102) Try.func102 (by kernel_rfl) (by kernel_rfl) call102 htabR (cs := cs102 (f102 n) n) (fun c hc => by
      simp only [cs102, List.mem_cons, List.not_mem_nil, or_false] at hc
      rcases hc with rfl
      · exact (okr102 n)) (fun _ => mixed) (by kernel_rfl) (by kernel_rfl) (by decide) (fun x => ⟨n, w102 (f102 n) n x⟩)
theorem ok102 (n : Nat) : Cal.Ok Try.prog ⟨102, F102.ps, F102.rs, F102.fr, fun a => f102 n a.1⟩ := (okr102 n)
-- tranship/bare.Of
def o127_0 (a0 : Int) (a1 : Int) (a2 : Int) (a3 : Int) (a4 : List Tm) : Option Tm :=
  ifB (decide ((0 : Int) < (a4.length : Int))) (
    ckB (decide (a4.length * 56 ≤ 140737488355328) && decide (a4.length ≤ 9223372036854775807)) <|
    some (Tm.mk a0 a1 a2 a3 a4)) (
    some (Tm.mk a0 a1 a2 a3 ([] : List Tm)))
def f127 (a0 : Int) (a1 : Int) (a2 : Int) (a3 : Int) (a4 : List Tm) : Option Tm := o127_0 a0 a1 a2 a3 a4
theorem call127 : Callable Try.prog 127 := callable_of Try.func127 (by kernel_rfl) (by kernel_rfl)
def an127p : An := .z
def F127p : Fn := { f := 127, a := an127p, vars := [.cell 10 24], ps := [.sc .int, .sc .int, .sc .int, .sc .int, .sl .tm], rs := [.pst .tm], own := false, fr := true, nt := 24, D := 2, loops := [] }
def cs127p : List Cal := []
theorem p127p_0 (lab : Nat → SS → Option (RT.den F127p.rs)) (x : PTs.den F127p.ps) : F127p.body (bodyOf Try.f127) tabR tyR true cs127p lab x = o127_0 x.1 x.2.1 x.2.2.1 x.2.2.2.1 x.2.2.2.2.1 := by kernel_rfl
theorem w127p (x : PTs.den F127p.ps) : F127p.body (bodyOf Try.f127) tabR tyR true cs127p (F127p.labX (bodyOf Try.f127) tabR tyR true cs127p (F127p.labM (bodyOf Try.f127) tabR tyR true cs127p 0) F127p.D) x = o127_0 x.1 x.2.1 x.2.2.1 x.2.2.2.1 x.2.2.2.2.1 := by
  show F127p.body (bodyOf Try.f127) tabR tyR true cs127p (F127p.labX (bodyOf Try.f127) tabR tyR true cs127p (F127p.labM (bodyOf Try.f127) tabR tyR true cs127p 0) 2) x = _
  rw [p127p_0]
theorem ok127p : Cal.Ok Try.prog ⟨127, F127p.ps, F127p.rs, F127p.fr, fun a => f127 a.1 a.2.1 a.2.2.1 a.2.2.2.1 a.2.2.2.2.1⟩ :=
  cal_of_fn F127p (code := bodyOf Try.f127) Try.func127 (by kernel_rfl) (by kernel_rfl) call127 htabR (cs := cs127p) (fun c hc => by simp only [cs127p, List.not_mem_nil] at hc) (fun _ => mixed) (by kernel_rfl) (by kernel_rfl) (by decide) (fun x => ⟨0, w127p x⟩)
-- tranship/transhipref04.Right
def o90_0 (n : Nat) (a0 : Tm) : Option Bool :=
  (f25 n a0).bind fun x1 =>
  ifB x1 (
    some true) (
    (f82 n a0).bind fun x2 =>
    some x2)
def f90 (n : Nat) (a0 : Tm) : Option Bool := o90_0 n a0
def an90 : An := .z
def F90 : Fn := { f := 90, a := an90, vars := [.tmp 2], ps := [.st .tm], rs := [.sc .bool], own := false, fr := true, nt := 9, D := 2, loops := [] }
def cs90 (n : Nat) : List Cal := [⟨25, [.st .tm], [.sc .bool], true, fun a => f25 n a.1⟩, ⟨82, [.st .tm], [.sc .bool], true, fun a => f82 n a.1⟩]
theorem p90_0 (n : Nat) (lab : Nat → SS → Option (RT.den F90.rs)) (x : PTs.den F90.ps) : F90.body (bodyOf Try.f90) tabR tyR true (cs90 n) lab x = o90_0 n x.1 := by kernel_rfl
theorem w90 (n : Nat) (x : PTs.den F90.ps) : F90.body (bodyOf Try.f90) tabR tyR true (cs90 n) (F90.labX (bodyOf Try.f90) tabR tyR true (cs90 n) (F90.labM (bodyOf Try.f90) tabR tyR true (cs90 n) 0) F90.D) x = o90_0 n x.1 := by
  show F90.body (bodyOf Try.f90) tabR tyR true (cs90 n) (F90.labX (bodyOf Try.f90) tabR tyR true (cs90 n) (F90.labM (bodyOf Try.f90) tabR tyR true (cs90 n) 0) 2) x = _
  rw [p90_0]
theorem call90 : Callable Try.prog 90 := callable_of Try.func90 (by kernel_rfl) (by kernel_rfl)
theorem ok90 (n : Nat) : Cal.Ok Try.prog ⟨90, F90.ps, F90.rs, F90.fr, fun a => f90 n a.1⟩ :=
  cal_of_fn F90 (code := bodyOf Try.f90) Try.func90 (by kernel_rfl) (by kernel_rfl) call90 htabR (cs := cs90 n) (fun c hc => by
      simp only [cs90, List.mem_cons, List.not_mem_nil, or_false] at hc
      rcases hc with rfl | rfl
      · exact ok25 n
      · exact ok82 n) (fun _ => mixed) (by kernel_rfl) (by kernel_rfl) (by decide) (fun x => ⟨0, w90 n x⟩)
-- tranship/transhipref04.Binds
def o128_0 (k1 : Int → Int → Bool → Option Int) (a0 : Int) (a1 : Int) : Option Int :=
  ifB (decide (a0 = (3 : Int))) (
    k1 a1 a0 (decide (a0 = (3 : Int)))) (
    ifB (decide (a0 = (5 : Int))) (
      k1 a1 a0 (decide (a0 = (5 : Int)))) (
      ifB (decide (a0 = (6 : Int))) (
        k1 a1 a0 (decide (a0 = (6 : Int)))) (
        ifB (decide (a0 = (7 : Int))) (
          k1 a1 a0 (decide (a0 = (7 : Int)))) (
          ifB (decide (a0 = (8 : Int))) (
            k1 a1 a0 (decide (a0 = (8 : Int)))) (
            ifB (decide (a0 = (9 : Int))) (
              k1 a1 a0 (decide (a0 = (9 : Int)))) (
              ifB (decide (a0 = (13 : Int))) (
                k1 a1 a0 (decide (a0 = (13 : Int)))) (
                ifB (decide (a0 = (14 : Int))) (
                  k1 a1 a0 (decide (a0 = (14 : Int)))) (
                  ifB (decide (a0 = (16 : Int))) (
                    k1 a1 a0 (decide (a0 = (16 : Int)))) (
                    k1 a1 a0 (decide (a0 = (17 : Int))))))))))))
def o128_1 (t1 : Int) (t5 : Int) (t6 : Bool) : Option Int :=
  ifB t6 (
    ifB (decide (t1 = (1 : Int))) (
      some (1 : Int)) (
      some (0 : Int))) (
    ifB (decide (t5 = (4 : Int))) (
      ifB (decide (t1 = (1 : Int))) (
        some (1 : Int)) (
        ifB (decide (t1 = (2 : Int))) (
          some (1 : Int)) (
          some (0 : Int)))) (
      ifB (decide (t5 = (22 : Int))) (
        ifB (decide (t1 = (2 : Int))) (
          some (2 : Int)) (
          some (0 : Int))) (
        some (0 : Int))))
def c128_1 (t1 : Int) (t5 : Int) (t6 : Bool) : Option Int :=
  o128_1 t1 t5 t6
def f128 (a0 : Int) (a1 : Int) : Option Int := o128_0 (c128_1) a0 a1
def an128 : An := (.n none [] 0 .z (.n none [] 0 (.n none [] 0 .z (.n none [] 0 (.n (some 1) [(1, .one .c), (5, .one .c), (6, .one .c)] 0 .z .z) .z)) .z))
def F128 : Fn := { f := 128, a := an128, vars := [.tmp 4], ps := [.sc .int, .sc .int], rs := [.sc .int], own := false, fr := true, nt := 31, D := 3, loops := [] }
def cs128 : List Cal := []
def st128_1 (t1 : Int) (t5 : Int) (t6 : Bool) : SS := ⟨[(1, .v (.one (.c (.int t1) true))), (5, .v (.one (.c (.int t5) true))), (6, .v (.one (.c (.bool t6) true)))], [], 0⟩
theorem p128_0 (lab : Nat → SS → Option (RT.den F128.rs)) (x : PTs.den F128.ps) : F128.body (bodyOf Try.f128) tabR tyR true cs128 lab x = o128_0 (fun t1 t5 t6 => lab 1 (st128_1 t1 t5 t6)) x.1 x.2.1 := by kernel_rfl
theorem p128_1 (lab : Nat → SS → Option (RT.den F128.rs)) (t1 : Int) (t5 : Int) (t6 : Bool) : F128.at (bodyOf Try.f128) tabR tyR true cs128 lab 1 (st128_1 t1 t5 t6) = o128_1 t1 t5 t6 := by kernel_rfl
theorem n128_1 (rec : Nat → SS → Option (RT.den F128.rs)) (d : Nat) (t1 : Int) (t5 : Int) (t6 : Bool) : F128.labD (bodyOf Try.f128) tabR tyR true cs128 rec (d + 1) 1 (st128_1 t1 t5 t6) = c128_1 t1 t5 t6 := by
  show F128.labD (bodyOf Try.f128) tabR tyR true cs128 rec (d + 1) 1 _ = _
  rw [Fn.labD_succ, p128_1]
  rfl
theorem w128 (x : PTs.den F128.ps) : F128.body (bodyOf Try.f128) tabR tyR true cs128 (F128.labX (bodyOf Try.f128) tabR tyR true cs128 (F128.labM (bodyOf Try.f128) tabR tyR true cs128 0) F128.D) x = o128_0 (c128_1) x.1 x.2.1 := by
  have e1 : ∀ t1 t5 t6, F128.labX (bodyOf Try.f128) tabR tyR true cs128 (F128.labM (bodyOf Try.f128) tabR tyR true cs128 0) 3 1 (st128_1 t1 t5 t6) = c128_1 t1 t5 t6 := fun t1 t5 t6 => (Fn.labX_step _ _ _ _ _ _ _ _ _ _ (by kernel_rfl)).trans (n128_1 (F128.labM (bodyOf Try.f128) tabR tyR true cs128 0) 2 t1 t5 t6)
  show F128.body (bodyOf Try.f128) tabR tyR true cs128 (F128.labX (bodyOf Try.f128) tabR tyR true cs128 (F128.labM (bodyOf Try.f128) tabR tyR true cs128 0) 3) x = _
  rw [p128_0]
  simp only [e1]
  try rfl
theorem call128 : Callable Try.prog 128 := callable_of Try.func128 (by kernel_rfl) (by kernel_rfl)
theorem ok128 : Cal.Ok Try.prog ⟨128, F128.ps, F128.rs, F128.fr, fun a => f128 a.1 a.2.1⟩ :=
  cal_of_fn F128 (code := bodyOf Try.f128) Try.func128 (by kernel_rfl) (by kernel_rfl) call128 htabR (cs := cs128) (fun c hc => by simp only [cs128, List.not_mem_nil] at hc) (fun _ => mixed) (by kernel_rfl) (by kernel_rfl) (by decide) (fun x => ⟨0, w128 x⟩)
-- tranship/bare.Binds
def o129_0 (k1 : Int → Int → Bool → Option Int) (a0 : Int) (a1 : Int) : Option Int :=
  ifB (decide (a0 = (3 : Int))) (
    k1 a1 a0 (decide (a0 = (3 : Int)))) (
    ifB (decide (a0 = (5 : Int))) (
      k1 a1 a0 (decide (a0 = (5 : Int)))) (
      ifB (decide (a0 = (6 : Int))) (
        k1 a1 a0 (decide (a0 = (6 : Int)))) (
        ifB (decide (a0 = (7 : Int))) (
          k1 a1 a0 (decide (a0 = (7 : Int)))) (
          ifB (decide (a0 = (8 : Int))) (
            k1 a1 a0 (decide (a0 = (8 : Int)))) (
            ifB (decide (a0 = (9 : Int))) (
              k1 a1 a0 (decide (a0 = (9 : Int)))) (
              ifB (decide (a0 = (13 : Int))) (
                k1 a1 a0 (decide (a0 = (13 : Int)))) (
                ifB (decide (a0 = (14 : Int))) (
                  k1 a1 a0 (decide (a0 = (14 : Int)))) (
                  ifB (decide (a0 = (16 : Int))) (
                    k1 a1 a0 (decide (a0 = (16 : Int)))) (
                    k1 a1 a0 (decide (a0 = (17 : Int))))))))))))
def o129_1 (t1 : Int) (t5 : Int) (t6 : Bool) : Option Int :=
  ifB t6 (
    ifB (decide (t1 = (1 : Int))) (
      some (1 : Int)) (
      some (0 : Int))) (
    ifB (decide (t5 = (4 : Int))) (
      ifB (decide (t1 = (1 : Int))) (
        some (1 : Int)) (
        ifB (decide (t1 = (2 : Int))) (
          some (1 : Int)) (
          some (0 : Int)))) (
      ifB (decide (t5 = (22 : Int))) (
        ifB (decide (t1 = (2 : Int))) (
          some (2 : Int)) (
          some (0 : Int))) (
        some (0 : Int))))
def c129_1 (t1 : Int) (t5 : Int) (t6 : Bool) : Option Int :=
  o129_1 t1 t5 t6
def f129 (a0 : Int) (a1 : Int) : Option Int := o129_0 (c129_1) a0 a1
def an129 : An := (.n none [] 0 .z (.n none [] 0 (.n none [] 0 .z (.n none [] 0 (.n (some 1) [(1, .one .c), (5, .one .c), (6, .one .c)] 0 .z .z) .z)) .z))
def F129 : Fn := { f := 129, a := an129, vars := [.tmp 4], ps := [.sc .int, .sc .int], rs := [.sc .int], own := false, fr := true, nt := 31, D := 3, loops := [] }
def cs129 : List Cal := []
def st129_1 (t1 : Int) (t5 : Int) (t6 : Bool) : SS := ⟨[(1, .v (.one (.c (.int t1) true))), (5, .v (.one (.c (.int t5) true))), (6, .v (.one (.c (.bool t6) true)))], [], 0⟩
theorem p129_0 (lab : Nat → SS → Option (RT.den F129.rs)) (x : PTs.den F129.ps) : F129.body (bodyOf Try.f129) tabR tyR true cs129 lab x = o129_0 (fun t1 t5 t6 => lab 1 (st129_1 t1 t5 t6)) x.1 x.2.1 := by kernel_rfl
theorem p129_1 (lab : Nat → SS → Option (RT.den F129.rs)) (t1 : Int) (t5 : Int) (t6 : Bool) : F129.at (bodyOf Try.f129) tabR tyR true cs129 lab 1 (st129_1 t1 t5 t6) = o129_1 t1 t5 t6 := by kernel_rfl
theorem n129_1 (rec : Nat → SS → Option (RT.den F129.rs)) (d : Nat) (t1 : Int) (t5 : Int) (t6 : Bool) : F129.labD (bodyOf Try.f129) tabR tyR true cs129 rec (d + 1) 1 (st129_1 t1 t5 t6) = c129_1 t1 t5 t6 := by
  show F129.labD (bodyOf Try.f129) tabR tyR true cs129 rec (d + 1) 1 _ = _
  rw [Fn.labD_succ, p129_1]
  rfl
theorem w129 (x : PTs.den F129.ps) : F129.body (bodyOf Try.f129) tabR tyR true cs129 (F129.labX (bodyOf Try.f129) tabR tyR true cs129 (F129.labM (bodyOf Try.f129) tabR tyR true cs129 0) F129.D) x = o129_0 (c129_1) x.1 x.2.1 := by
  have e1 : ∀ t1 t5 t6, F129.labX (bodyOf Try.f129) tabR tyR true cs129 (F129.labM (bodyOf Try.f129) tabR tyR true cs129 0) 3 1 (st129_1 t1 t5 t6) = c129_1 t1 t5 t6 := fun t1 t5 t6 => (Fn.labX_step _ _ _ _ _ _ _ _ _ _ (by kernel_rfl)).trans (n129_1 (F129.labM (bodyOf Try.f129) tabR tyR true cs129 0) 2 t1 t5 t6)
  show F129.body (bodyOf Try.f129) tabR tyR true cs129 (F129.labX (bodyOf Try.f129) tabR tyR true cs129 (F129.labM (bodyOf Try.f129) tabR tyR true cs129 0) 3) x = _
  rw [p129_0]
  simp only [e1]
  try rfl
theorem call129 : Callable Try.prog 129 := callable_of Try.func129 (by kernel_rfl) (by kernel_rfl)
theorem ok129 : Cal.Ok Try.prog ⟨129, F129.ps, F129.rs, F129.fr, fun a => f129 a.1 a.2.1⟩ :=
  cal_of_fn F129 (code := bodyOf Try.f129) Try.func129 (by kernel_rfl) (by kernel_rfl) call129 htabR (cs := cs129) (fun c hc => by simp only [cs129, List.not_mem_nil] at hc) (fun _ => mixed) (by kernel_rfl) (by kernel_rfl) (by decide) (fun x => ⟨0, w129 x⟩)
-- tranship/bare.Lift
def o92_0 (s92 : Tm → Int → Int → Option (Tm × Bool)) (n : Nat) (k2 : Int → Int → Tm → Int → Int → Int → Int → Bool → Option (Tm × Bool)) (a0 : Tm) (a1 : Int) (a2 : Int) : Option (Tm × Bool) :=
  ifB (decide (a0.kind = (2 : Int))) (
    k2 a1 a2 a0 (0 : Int) (0 : Int) (0 : Int) (0 : Int) (decide (a2 ≤ a0.i))) (
    k2 a1 a2 a0 (0 : Int) (0 : Int) (0 : Int) (0 : Int) false)
def o92_1 (s92 : Tm → Int → Int → Option (Tm × Bool)) (n : Nat) (k3 : Int → Int → Tm → Int → Int → Int → Int → (List Tm) → (List Tm) → Int → Int → Option (Tm × Bool)) (t1 : Int) (t2 : Int) (t3 : Tm) (t6_0 : Int) (t6_1 : Int) (t6_2 : Int) (t6_3 : Int) : Option (Tm × Bool) :=
  ifB (decide ((t3.kids.length : Int) = (0 : Int))) (
    some ((Tm.mk t3.kind t3.i t3.j t3.n ([] : List Tm)), true)) (
    ckB (decide (0 ≤ (t3.kids.length : Int)) && (decide ((t3.kids.length : Int) ≤ (t3.kids.length : Int)) && decide ((56 : Nat) * (t3.kids.length : Int) ≤ 281474976710656))) <|
    k3 t1 t2 t3 t6_0 t6_1 t6_2 t6_3 (List.replicate (t3.kids.length : Int).toNat (Tm.mk (0 : Int) (0 : Int) (0 : Int) (0 : Int) ([] : List Tm))) t3.kids (t3.kids.length : Int) (0 : Int))
def o92_2 (s92 : Tm → Int → Int → Option (Tm × Bool)) (n : Nat) (k1 : Int → Int → Tm → Int → Int → Int → Int → Option (Tm × Bool)) (t1 : Int) (t2 : Int) (t3 : Tm) (t6_0 : Int) (t6_1 : Int) (t6_2 : Int) (t6_3 : Int) (t21 : Bool) : Option (Tm × Bool) :=
  ifB t21 (
    ckI ((2147483647 : Int) - t3.i) <|
    ifB (decide (((2147483647 : Int) - t3.i) < t1)) (
      some ((Tm.mk (0 : Int) (0 : Int) (0 : Int) (0 : Int) ([] : List Tm)), false)) (
      ckI (t3.i + t1) <|
      k1 t1 t2 (Tm.mk t3.kind (t3.i + t1) t3.j t3.n t3.kids) t6_0 t6_1 t6_2 t6_3)) (
    k1 t1 t2 t3 t6_0 t6_1 t6_2 t6_3)
def o92_3 (s92 : Tm → Int → Int → Option (Tm × Bool)) (n : Nat) (k3 : Int → Int → Tm → Int → Int → Int → Int → (List Tm) → (List Tm) → Int → Int → Option (Tm × Bool)) (t1 : Int) (t2 : Int) (t3 : Tm) (t6_0 : Int) (t6_1 : Int) (t6_2 : Int) (t6_3 : Int) (t8 : List Tm) (t44 : List Tm) (t45 : Int) (t46 : Int) : Option (Tm × Bool) :=
  ifB (decide (t46 < t45)) (
    atI t44 t46 fun x1 =>
    (f129 t3.kind t46).bind fun x2 =>
    ckI (t2 + x2) <|
    (s92 x1 t1 (t2 + x2)).bind fun x3 =>
    ifB (!x3.2) (
      some ((Tm.mk (0 : Int) (0 : Int) (0 : Int) (0 : Int) ([] : List Tm)), false)) (
      ckB (decide (0 ≤ t46) && decide (t46 < t8.length)) <|
      ckB (decide (t46.toNat < t8.length)) <|
      ckI (t46 + (1 : Int)) <|
      k3 t1 t2 t3 t6_0 t6_1 t6_2 t6_3 (t8.set t46.toNat (Tm.mk x3.1.kind x3.1.i x3.1.j x3.1.n x3.1.kids)) t44 t45 (t46 + (1 : Int)))) (
    some ((Tm.mk t3.kind t3.i t3.j t3.n t8), true))
def c92_1 (s92 : Tm → Int → Int → Option (Tm × Bool)) (n : Nat) (k3 : Int → Int → Tm → Int → Int → Int → Int → (List Tm) → (List Tm) → Int → Int → Option (Tm × Bool)) (t1 : Int) (t2 : Int) (t3 : Tm) (t6_0 : Int) (t6_1 : Int) (t6_2 : Int) (t6_3 : Int) : Option (Tm × Bool) :=
  o92_1 s92 n k3 t1 t2 t3 t6_0 t6_1 t6_2 t6_3
def c92_2 (s92 : Tm → Int → Int → Option (Tm × Bool)) (n : Nat) (k3 : Int → Int → Tm → Int → Int → Int → Int → (List Tm) → (List Tm) → Int → Int → Option (Tm × Bool)) (t1 : Int) (t2 : Int) (t3 : Tm) (t6_0 : Int) (t6_1 : Int) (t6_2 : Int) (t6_3 : Int) (t21 : Bool) : Option (Tm × Bool) :=
  o92_2 s92 n (c92_1 s92 n k3) t1 t2 t3 t6_0 t6_1 t6_2 t6_3 t21
def l92_3 (s92 : Tm → Int → Int → Option (Tm × Bool)) (n : Nat) : Nat → Int → Int → Tm → Int → Int → Int → Int → (List Tm) → (List Tm) → Int → Int → Option (Tm × Bool)
  | 0, _, _, _, _, _, _, _, _, _, _, _ => none
  | m + 1, t1, t2, t3, t6_0, t6_1, t6_2, t6_3, t8, t44, t45, t46 => o92_3 s92 n (l92_3 s92 n m) t1 t2 t3 t6_0 t6_1 t6_2 t6_3 t8 t44 t45 t46
def f92 : Nat → Tm → Int → Int → Option (Tm × Bool)
  | 0, _, _, _ => none
  | n + 1, a0, a1, a2 => o92_0 (f92 n) n (c92_2 (f92 n) n (l92_3 (f92 n) n n)) a0 a1 a2
def an92 : An := (.n none [] 0 .z (.n (some 1) [(1, .one .c), (2, .one .c), (3, .ps 0 .tm false), (6, .p 1 [.c, .c, .c, .c, .k])] 2 (.n (some 2) [(1, .one .c), (2, .one .c), (3, .ps 0 .tm false), (6, .p 1 [.c, .c, .c, .c, .k]), (21, .one .c)] 2 .z .z) (.n none [] 0 .z (.n none [] 0 .z (.n none [] 0 (.n none [] 0 .z (.n none [] 0 (.n (some 3) [(1, .one .c), (2, .one .c), (3, .ps 0 .tm false), (6, .p 1 [.c, .c, .c, .c, .k]), (8, .one (.r 2 24 .tm true)), (44, .one (.d .tm false)), (45, .one .c), (46, .one .c)] 3 .z .z) .z)) .z)))))
def F92 : Fn := { f := 92, a := an92, vars := [.cell 6 24, .tmp 7], ps := [.st .tm, .sc .int, .sc .int], rs := [.st .tm, .sc .bool], own := false, fr := true, nt := 74, D := 5, loops := [3] }
def cs92 (s92 : Tm → Int → Int → Option (Tm × Bool)) (n : Nat) : List Cal := [⟨92, [.st .tm, .sc .int, .sc .int], [.st .tm, .sc .bool], true, fun a => s92 a.1 a.2.1 a.2.2.1⟩, ⟨129, [.sc .int, .sc .int], [.sc .int], true, fun a => f129 a.1 a.2.1⟩]
def st92_1 (t1 : Int) (t2 : Int) (t3 : Tm) (t6_0 : Int) (t6_1 : Int) (t6_2 : Int) (t6_3 : Int) : SS := ⟨[(1, .v (.one (.c (.int t1) true))), (2, .v (.one (.c (.int t2) true))), (3, .v (.one (.ptr 0 0))), (6, .v (.one (.ptr 1 0)))], [(0, some (.bst .tm t3 false)), (1, some (.box [.c (.int t6_0) true, .c (.int t6_1) true, .c (.int t6_2) true, .c (.int t6_3) true, .nils]))], 2⟩
def st92_2 (t1 : Int) (t2 : Int) (t3 : Tm) (t6_0 : Int) (t6_1 : Int) (t6_2 : Int) (t6_3 : Int) (t21 : Bool) : SS := ⟨[(1, .v (.one (.c (.int t1) true))), (2, .v (.one (.c (.int t2) true))), (3, .v (.one (.ptr 0 0))), (6, .v (.one (.ptr 1 0))), (21, .v (.one (.c (.bool t21) true)))], [(0, some (.bst .tm t3 false)), (1, some (.box [.c (.int t6_0) true, .c (.int t6_1) true, .c (.int t6_2) true, .c (.int t6_3) true, .nils]))], 2⟩
def st92_3 (t1 : Int) (t2 : Int) (t3 : Tm) (t6_0 : Int) (t6_1 : Int) (t6_2 : Int) (t6_3 : Int) (t8 : List Tm) (t44 : List Tm) (t45 : Int) (t46 : Int) : SS := ⟨[(1, .v (.one (.c (.int t1) true))), (2, .v (.one (.c (.int t2) true))), (3, .v (.one (.ptr 0 0))), (6, .v (.one (.ptr 1 0))), (8, .v (.one (.arr 2))), (44, .v (.one (.c (.sl .tm t44) false))), (45, .v (.one (.c (.int t45) true))), (46, .v (.one (.c (.int t46) true)))], [(0, some (.bst .tm t3 false)), (1, some (.box [.c (.int t6_0) true, .c (.int t6_1) true, .c (.int t6_2) true, .c (.int t6_3) true, .nils])), (2, some (.row 24 .tm t8 true))], 3⟩
theorem p92_0 (s92 : Tm → Int → Int → Option (Tm × Bool)) (n : Nat) (lab : Nat → SS → Option (RT.den F92.rs)) (x : PTs.den F92.ps) : F92.body (bodyOf Try.f92) tabR tyR true (cs92 s92 n) lab x = o92_0 s92 n (fun t1 t2 t3 t6_0 t6_1 t6_2 t6_3 t21 => lab 2 (st92_2 t1 t2 t3 t6_0 t6_1 t6_2 t6_3 t21)) x.1 x.2.1 x.2.2.1 := by kernel_rfl
theorem p92_1 (s92 : Tm → Int → Int → Option (Tm × Bool)) (n : Nat) (lab : Nat → SS → Option (RT.den F92.rs)) (t1 : Int) (t2 : Int) (t3 : Tm) (t6_0 : Int) (t6_1 : Int) (t6_2 : Int) (t6_3 : Int) : F92.at (bodyOf Try.f92) tabR tyR true (cs92 s92 n) lab 1 (st92_1 t1 t2 t3 t6_0 t6_1 t6_2 t6_3) = o92_1 s92 n (fun t1 t2 t3 t6_0 t6_1 t6_2 t6_3 t8 t44 t45 t46 => lab 3 (st92_3 t1 t2 t3 t6_0 t6_1 t6_2 t6_3 t8 t44 t45 t46)) t1 t2 t3 t6_0 t6_1 t6_2 t6_3 := by kernel_rfl
theorem p92_2 (s92 : Tm → Int → Int → Option (Tm × Bool)) (n : Nat) (lab : Nat → SS → Option (RT.den F92.rs)) (t1 : Int) (t2 : Int) (t3 : Tm) (t6_0 : Int) (t6_1 : Int) (t6_2 : Int) (t6_3 : Int) (t21 : Bool) : F92.at (bodyOf Try.f92) tabR tyR true (cs92 s92 n) lab 2 (st92_2 t1 t2 t3 t6_0 t6_1 t6_2 t6_3 t21) = o92_2 s92 n (fun t1 t2 t3 t6_0 t6_1 t6_2 t6_3 => lab 1 (st92_1 t1 t2 t3 t6_0 t6_1 t6_2 t6_3)) t1 t2 t3 t6_0 t6_1 t6_2 t6_3 t21 := by kernel_rfl
theorem p92_3 (s92 : Tm → Int → Int → Option (Tm × Bool)) (n : Nat) (lab : Nat → SS → Option (RT.den F92.rs)) (t1 : Int) (t2 : Int) (t3 : Tm) (t6_0 : Int) (t6_1 : Int) (t6_2 : Int) (t6_3 : Int) (t8 : List Tm) (t44 : List Tm) (t45 : Int) (t46 : Int) : F92.at (bodyOf Try.f92) tabR tyR true (cs92 s92 n) lab 3 (st92_3 t1 t2 t3 t6_0 t6_1 t6_2 t6_3 t8 t44 t45 t46) = o92_3 s92 n (fun t1 t2 t3 t6_0 t6_1 t6_2 t6_3 t8 t44 t45 t46 => lab 3 (st92_3 t1 t2 t3 t6_0 t6_1 t6_2 t6_3 t8 t44 t45 t46)) t1 t2 t3 t6_0 t6_1 t6_2 t6_3 t8 t44 t45 t46 := by kernel_rfl
theorem n92_1 (s92 : Tm → Int → Int → Option (Tm × Bool)) (n : Nat) (rec : Nat → SS → Option (RT.den F92.rs)) (k3 : Int → Int → Tm → Int → Int → Int → Int → (List Tm) → (List Tm) → Int → Int → Option (Tm × Bool)) (h3 : ∀ t1 t2 t3 t6_0 t6_1 t6_2 t6_3 t8 t44 t45 t46, rec 3 (st92_3 t1 t2 t3 t6_0 t6_1 t6_2 t6_3 t8 t44 t45 t46) = k3 t1 t2 t3 t6_0 t6_1 t6_2 t6_3 t8 t44 t45 t46) (d : Nat) (t1 : Int) (t2 : Int) (t3 : Tm) (t6_0 : Int) (t6_1 : Int) (t6_2 : Int) (t6_3 : Int) : F92.labD (bodyOf Try.f92) tabR tyR true (cs92 s92 n) rec (d + 1) 1 (st92_1 t1 t2 t3 t6_0 t6_1 t6_2 t6_3) = c92_1 s92 n k3 t1 t2 t3 t6_0 t6_1 t6_2 t6_3 := by
  have e3 : ∀ t1 t2 t3 t6_0 t6_1 t6_2 t6_3 t8 t44 t45 t46, F92.labX (bodyOf Try.f92) tabR tyR true (cs92 s92 n) rec d 3 (st92_3 t1 t2 t3 t6_0 t6_1 t6_2 t6_3 t8 t44 t45 t46) = k3 t1 t2 t3 t6_0 t6_1 t6_2 t6_3 t8 t44 t45 t46 := fun t1 t2 t3 t6_0 t6_1 t6_2 t6_3 t8 t44 t45 t46 => (Fn.labX_loop _ _ _ _ _ _ _ _ _ _ (by kernel_rfl)).trans (h3 t1 t2 t3 t6_0 t6_1 t6_2 t6_3 t8 t44 t45 t46)
  show F92.labD (bodyOf Try.f92) tabR tyR true (cs92 s92 n) rec (d + 1) 1 _ = _
  rw [Fn.labD_succ, p92_1]
  simp only [e3]
  rfl
theorem n92_2 (s92 : Tm → Int → Int → Option (Tm × Bool)) (n : Nat) (rec : Nat → SS → Option (RT.den F92.rs)) (k3 : Int → Int → Tm → Int → Int → Int → Int → (List Tm) → (List Tm) → Int → Int → Option (Tm × Bool)) (h3 : ∀ t1 t2 t3 t6_0 t6_1 t6_2 t6_3 t8 t44 t45 t46, rec 3 (st92_3 t1 t2 t3 t6_0 t6_1 t6_2 t6_3 t8 t44 t45 t46) = k3 t1 t2 t3 t6_0 t6_1 t6_2 t6_3 t8 t44 t45 t46) (d : Nat) (t1 : Int) (t2 : Int) (t3 : Tm) (t6_0 : Int) (t6_1 : Int) (t6_2 : Int) (t6_3 : Int) (t21 : Bool) : F92.labD (bodyOf Try.f92) tabR tyR true (cs92 s92 n) rec (d + 2) 2 (st92_2 t1 t2 t3 t6_0 t6_1 t6_2 t6_3 t21) = c92_2 s92 n k3 t1 t2 t3 t6_0 t6_1 t6_2 t6_3 t21 := by
  have e1 : ∀ t1 t2 t3 t6_0 t6_1 t6_2 t6_3, F92.labX (bodyOf Try.f92) tabR tyR true (cs92 s92 n) rec (d + 1) 1 (st92_1 t1 t2 t3 t6_0 t6_1 t6_2 t6_3) = c92_1 s92 n k3 t1 t2 t3 t6_0 t6_1 t6_2 t6_3 := fun t1 t2 t3 t6_0 t6_1 t6_2 t6_3 => (Fn.labX_step _ _ _ _ _ _ _ _ _ _ (by kernel_rfl)).trans (n92_1 s92 n rec k3 h3 d t1 t2 t3 t6_0 t6_1 t6_2 t6_3)
  show F92.labD (bodyOf Try.f92) tabR tyR true (cs92 s92 n) rec ((d + 1) + 1) 2 _ = _
  rw [Fn.labD_succ, p92_2]
  simp only [e1]
  rfl
theorem m92_3 (s92 : Tm → Int → Int → Option (Tm × Bool)) (n : Nat) : ∀ m : Nat, (∀ t1 t2 t3 t6_0 t6_1 t6_2 t6_3 t8 t44 t45 t46, F92.labM (bodyOf Try.f92) tabR tyR true (cs92 s92 n) m 3 (st92_3 t1 t2 t3 t6_0 t6_1 t6_2 t6_3 t8 t44 t45 t46) = l92_3 s92 n m t1 t2 t3 t6_0 t6_1 t6_2 t6_3 t8 t44 t45 t46) := by
  intro m
  induction m with
  | zero => exact fun _ _ _ _ _ _ _ _ _ _ _ => rfl
  | succ m ih =>
    intro t1 t2 t3 t6_0 t6_1 t6_2 t6_3 t8 t44 t45 t46
    have e3 : ∀ t1 t2 t3 t6_0 t6_1 t6_2 t6_3 t8 t44 t45 t46, F92.labX (bodyOf Try.f92) tabR tyR true (cs92 s92 n) (F92.labM (bodyOf Try.f92) tabR tyR true (cs92 s92 n) m) 4 3 (st92_3 t1 t2 t3 t6_0 t6_1 t6_2 t6_3 t8 t44 t45 t46) = (l92_3 s92 n m) t1 t2 t3 t6_0 t6_1 t6_2 t6_3 t8 t44 t45 t46 := fun t1 t2 t3 t6_0 t6_1 t6_2 t6_3 t8 t44 t45 t46 => (Fn.labX_loop _ _ _ _ _ _ _ _ _ _ (by kernel_rfl)).trans (ih t1 t2 t3 t6_0 t6_1 t6_2 t6_3 t8 t44 t45 t46)
    rw [Fn.labM_succ]
    show F92.labD (bodyOf Try.f92) tabR tyR true (cs92 s92 n) (F92.labM (bodyOf Try.f92) tabR tyR true (cs92 s92 n) m) (4 + 1) 3 _ = _
    rw [Fn.labD_succ, p92_3]
    simp only [e3]
    rfl
theorem w92 (s92 : Tm → Int → Int → Option (Tm × Bool)) (n : Nat) (x : PTs.den F92.ps) : F92.body (bodyOf Try.f92) tabR tyR true (cs92 s92 n) (F92.labX (bodyOf Try.f92) tabR tyR true (cs92 s92 n) (F92.labM (bodyOf Try.f92) tabR tyR true (cs92 s92 n) n) F92.D) x = o92_0 s92 n (c92_2 s92 n (l92_3 s92 n n)) x.1 x.2.1 x.2.2.1 := by
  have e2 : ∀ t1 t2 t3 t6_0 t6_1 t6_2 t6_3 t21, F92.labX (bodyOf Try.f92) tabR tyR true (cs92 s92 n) (F92.labM (bodyOf Try.f92) tabR tyR true (cs92 s92 n) n) 5 2 (st92_2 t1 t2 t3 t6_0 t6_1 t6_2 t6_3 t21) = c92_2 s92 n (l92_3 s92 n n) t1 t2 t3 t6_0 t6_1 t6_2 t6_3 t21 := fun t1 t2 t3 t6_0 t6_1 t6_2 t6_3 t21 => (Fn.labX_step _ _ _ _ _ _ _ _ _ _ (by kernel_rfl)).trans (n92_2 s92 n (F92.labM (bodyOf Try.f92) tabR tyR true (cs92 s92 n) n) (l92_3 s92 n n) (m92_3 s92 n n) 3 t1 t2 t3 t6_0 t6_1 t6_2 t6_3 t21)
  show F92.body (bodyOf Try.f92) tabR tyR true (cs92 s92 n) (F92.labX (bodyOf Try.f92) tabR tyR true (cs92 s92 n) (F92.labM (bodyOf Try.f92) tabR tyR true (cs92 s92 n) n) 5) x = _
  rw [p92_0]
  simp only [e2]
  try rfl
theorem call92 : Callable Try.prog 92 := callable_of Try.func92 (by kernel_rfl) (by kernel_rfl)
theorem okr92 : ∀ n : Nat, Cal.Ok Try.prog ⟨92, F92.ps, F92.rs, F92.fr, fun a => f92 n a.1 a.2.1 a.2.2.1⟩
  | 0 => ⟨by kernel_rfl, fun a r h => by cases h⟩
  | n + 1 => cal_of_fn F92 (code := bodyOf Try.f92) Try.func92 (by kernel_rfl) (by kernel_rfl) call92 htabR (cs := cs92 (f92 n) n) (fun c hc => by
      simp only [cs92, List.mem_cons, List.not_mem_nil, or_false] at hc
      rcases hc with rfl | rfl
      · exact (okr92 n)
      · exact ok129) (fun _ => mixed) (by kernel_rfl) (by kernel_rfl) (by decide) (fun x => ⟨n, w92 (f92 n) n x⟩)
theorem ok92 (n : Nat) : Cal.Ok Try.prog ⟨92, F92.ps, F92.rs, F92.fr, fun a => f92 n a.1 a.2.1 a.2.2.1⟩ := (okr92 n)
-- tranship/bare.Var
-- tranship/term.free
def o135_0 (s135 : Tm → Int → Option Int) (n : Nat) (k1 : Int → Tm → Int → (List Tm) → Int → Int → Option Int) (a0 : Tm) (a1 : Int) : Option Int :=
  ifB (decide (a0.kind = (2 : Int))) (
    ckI (a0.i + (1 : Int)) <|
    ckI ((a0.i + (1 : Int)) - a1) <|
    some (max ((a0.i + (1 : Int)) - a1) (0 : Int))) (
    k1 a1 a0 (0 : Int) a0.kids (a0.kids.length : Int) (0 : Int))
def o135_1 (s135 : Tm → Int → Option Int) (n : Nat) (k1 : Int → Tm → Int → (List Tm) → Int → Int → Option Int) (t1 : Int) (t2 : Tm) (t5 : Int) (t18 : List Tm) (t19 : Int) (t20 : Int) : Option Int :=
  ifB (decide (t20 < t19)) (
    atI t18 t20 fun x1 =>
    (f129 t2.kind t20).bind fun x2 =>
    ckI (t1 + x2) <|
    (s135 x1 (t1 + x2)).bind fun x3 =>
    ckI (t20 + (1 : Int)) <|
    k1 t1 t2 (max t5 x3) t18 t19 (t20 + (1 : Int))) (
    some t5)
def l135_1 (s135 : Tm → Int → Option Int) (n : Nat) : Nat → Int → Tm → Int → (List Tm) → Int → Int → Option Int
  | 0, _, _, _, _, _, _ => none
  | m + 1, t1, t2, t5, t18, t19, t20 => o135_1 s135 n (l135_1 s135 n m) t1 t2 t5 t18 t19 t20
def f135 : Nat → Tm → Int → Option Int
  | 0, _, _ => none
  | n + 1, a0, a1 => o135_0 (f135 n) n (l135_1 (f135 n) n n) a0 a1
def an135 : An := (.n none [] 0 .z (.n none [] 0 .z (.n none [] 0 .z (.n none [] 0 (.n none [] 0 .z (.n none [] 0 (.n (some 1) [(1, .one .c), (2, .ps 0 .tm false), (5, .one .c), (18, .one (.d .tm false)), (19, .one .c), (20, .one .c)] 1 .z .z) .z)) .z))))
def F135 : Fn := { f := 135, a := an135, vars := [.tmp 4], ps := [.st .tm, .sc .int], rs := [.sc .int], own := false, fr := true, nt := 37, D := 3, loops := [1] }
def cs135 (s135 : Tm → Int → Option Int) (n : Nat) : List Cal := [⟨129, [.sc .int, .sc .int], [.sc .int], true, fun a => f129 a.1 a.2.1⟩, ⟨135, [.st .tm, .sc .int], [.sc .int], true, fun a => s135 a.1 a.2.1⟩]
def st135_1 (t1 : Int) (t2 : Tm) (t5 : Int) (t18 : List Tm) (t19 : Int) (t20 : Int) : SS := ⟨[(1, .v (.one (.c (.int t1) true))), (2, .v (.one (.ptr 0 0))), (5, .v (.one (.c (.int t5) true))), (18, .v (.one (.c (.sl .tm t18) false))), (19, .v (.one (.c (.int t19) true))), (20, .v (.one (.c (.int t20) true)))], [(0, some (.bst .tm t2 false))], 1⟩
theorem p135_0 (s135 : Tm → Int → Option Int) (n : Nat) (lab : Nat → SS → Option (RT.den F135.rs)) (x : PTs.den F135.ps) : F135.body (bodyOf Try.f135) tabR tyR true (cs135 s135 n) lab x = o135_0 s135 n (fun t1 t2 t5 t18 t19 t20 => lab 1 (st135_1 t1 t2 t5 t18 t19 t20)) x.1 x.2.1 := by kernel_rfl
theorem p135_1 (s135 : Tm → Int → Option Int) (n : Nat) (lab : Nat → SS → Option (RT.den F135.rs)) (t1 : Int) (t2 : Tm) (t5 : Int) (t18 : List Tm) (t19 : Int) (t20 : Int) : F135.at (bodyOf Try.f135) tabR tyR true (cs135 s135 n) lab 1 (st135_1 t1 t2 t5 t18 t19 t20) = o135_1 s135 n (fun t1 t2 t5 t18 t19 t20 => lab 1 (st135_1 t1 t2 t5 t18 t19 t20)) t1 t2 t5 t18 t19 t20 := by kernel_rfl
theorem m135_1 (s135 : Tm → Int → Option Int) (n : Nat) : ∀ m : Nat, (∀ t1 t2 t5 t18 t19 t20, F135.labM (bodyOf Try.f135) tabR tyR true (cs135 s135 n) m 1 (st135_1 t1 t2 t5 t18 t19 t20) = l135_1 s135 n m t1 t2 t5 t18 t19 t20) := by
  intro m
  induction m with
  | zero => exact fun _ _ _ _ _ _ => rfl
  | succ m ih =>
    intro t1 t2 t5 t18 t19 t20
    have e1 : ∀ t1 t2 t5 t18 t19 t20, F135.labX (bodyOf Try.f135) tabR tyR true (cs135 s135 n) (F135.labM (bodyOf Try.f135) tabR tyR true (cs135 s135 n) m) 2 1 (st135_1 t1 t2 t5 t18 t19 t20) = (l135_1 s135 n m) t1 t2 t5 t18 t19 t20 := fun t1 t2 t5 t18 t19 t20 => (Fn.labX_loop _ _ _ _ _ _ _ _ _ _ (by kernel_rfl)).trans (ih t1 t2 t5 t18 t19 t20)
    rw [Fn.labM_succ]
    show F135.labD (bodyOf Try.f135) tabR tyR true (cs135 s135 n) (F135.labM (bodyOf Try.f135) tabR tyR true (cs135 s135 n) m) (2 + 1) 1 _ = _
    rw [Fn.labD_succ, p135_1]
    simp only [e1]
    rfl
theorem w135 (s135 : Tm → Int → Option Int) (n : Nat) (x : PTs.den F135.ps) : F135.body (bodyOf Try.f135) tabR tyR true (cs135 s135 n) (F135.labX (bodyOf Try.f135) tabR tyR true (cs135 s135 n) (F135.labM (bodyOf Try.f135) tabR tyR true (cs135 s135 n) n) F135.D) x = o135_0 s135 n (l135_1 s135 n n) x.1 x.2.1 := by
  have e1 : ∀ t1 t2 t5 t18 t19 t20, F135.labX (bodyOf Try.f135) tabR tyR true (cs135 s135 n) (F135.labM (bodyOf Try.f135) tabR tyR true (cs135 s135 n) n) 3 1 (st135_1 t1 t2 t5 t18 t19 t20) = (l135_1 s135 n n) t1 t2 t5 t18 t19 t20 := fun t1 t2 t5 t18 t19 t20 => (Fn.labX_loop _ _ _ _ _ _ _ _ _ _ (by kernel_rfl)).trans ((m135_1 s135 n n) t1 t2 t5 t18 t19 t20)
  show F135.body (bodyOf Try.f135) tabR tyR true (cs135 s135 n) (F135.labX (bodyOf Try.f135) tabR tyR true (cs135 s135 n) (F135.labM (bodyOf Try.f135) tabR tyR true (cs135 s135 n) n) 3) x = _
  rw [p135_0]
  simp only [e1]
  try rfl
theorem call135 : Callable Try.prog 135 := callable_of Try.func135 (by kernel_rfl) (by kernel_rfl)
theorem okr135 : ∀ n : Nat, Cal.Ok Try.prog ⟨135, F135.ps, F135.rs, F135.fr, fun a => f135 n a.1 a.2.1⟩
  | 0 => ⟨by kernel_rfl, fun a r h => by cases h⟩
  | n + 1 => cal_of_fn F135 (code := bodyOf Try.f135) Try.func135 (by kernel_rfl) (by kernel_rfl) call135 htabR (cs := cs135 (f135 n) n) (fun c hc => by
      simp only [cs135, List.mem_cons, List.not_mem_nil, or_false] at hc
      rcases hc with rfl | rfl
      · exact ok129
      · exact (okr135 n)) (fun _ => mixed) (by kernel_rfl) (by kernel_rfl) (by decide) (fun x => ⟨n, w135 (f135 n) n x⟩)
theorem ok135 (n : Nat) : Cal.Ok Try.prog ⟨135, F135.ps, F135.rs, F135.fr, fun a => f135 n a.1 a.2.1⟩ := (okr135 n)
-- tranship/term.Free
def o99_0 (n : Nat) (a0 : Tm) : Option Int :=
  (f87 n a0).bind fun x1 =>
  ifB (!x1) (
    some (0 : Int)) (
    (f135 n a0 (0 : Int)).bind fun x2 =>
    some x2)
def f99 (n : Nat) (a0 : Tm) : Option Int := o99_0 n a0
def an99 : An := .z
def F99 : Fn := { f := 99, a := an99, vars := [.tmp 2], ps := [.st .tm], rs := [.sc .int], own := false, fr := true, nt := 8, D := 2, loops := [] }
def cs99 (n : Nat) : List Cal := [⟨87, [.st .tm], [.sc .bool], true, fun a => f87 n a.1⟩, ⟨135, [.st .tm, .sc .int], [.sc .int], true, fun a => f135 n a.1 a.2.1⟩]
theorem p99_0 (n : Nat) (lab : Nat → SS → Option (RT.den F99.rs)) (x : PTs.den F99.ps) : F99.body (bodyOf Try.f99) tabR tyR true (cs99 n) lab x = o99_0 n x.1 := by kernel_rfl
theorem w99 (n : Nat) (x : PTs.den F99.ps) : F99.body (bodyOf Try.f99) tabR tyR true (cs99 n) (F99.labX (bodyOf Try.f99) tabR tyR true (cs99 n) (F99.labM (bodyOf Try.f99) tabR tyR true (cs99 n) 0) F99.D) x = o99_0 n x.1 := by
  show F99.body (bodyOf Try.f99) tabR tyR true (cs99 n) (F99.labX (bodyOf Try.f99) tabR tyR true (cs99 n) (F99.labM (bodyOf Try.f99) tabR tyR true (cs99 n) 0) 2) x = _
  rw [p99_0]
theorem call99 : Callable Try.prog 99 := callable_of Try.func99 (by kernel_rfl) (by kernel_rfl)
theorem ok99 (n : Nat) : Cal.Ok Try.prog ⟨99, F99.ps, F99.rs, F99.fr, fun a => f99 n a.1⟩ :=
  cal_of_fn F99 (code := bodyOf Try.f99) Try.func99 (by kernel_rfl) (by kernel_rfl) call99 htabR (cs := cs99 n) (fun c hc => by
      simp only [cs99, List.mem_cons, List.not_mem_nil, or_false] at hc
      rcases hc with rfl | rfl
      · exact ok87 n
      · exact ok135 n) (fun _ => mixed) (by kernel_rfl) (by kernel_rfl) (by decide) (fun x => ⟨0, w99 n x⟩)
-- tranship/transhipref04.free
def o103_0 (s103 : Tm → Option Int) (n : Nat) (k1 : Tm → Int → Int → Option Int) (a0 : Tm) : Option Int :=
  ifB (decide (a0.kind = (2 : Int))) (
    ckI (a0.i + (1 : Int)) <|
    some (a0.i + (1 : Int))) (
    k1 a0 (0 : Int) (0 : Int))
def o103_1 (s103 : Tm → Option Int) (n : Nat) (k1 : Tm → Int → Int → Option Int) (t1 : Tm) (t3 : Int) (t4 : Int) : Option Int :=
  ifB (decide (t4 < (t1.kids.length : Int))) (
    atI t1.kids t4 fun x1 =>
    (s103 x1).bind fun x2 =>
    (f128 t1.kind t4).bind fun x3 =>
    ckI (x2 - x3) <|
    ckI (t4 + (1 : Int)) <|
    k1 t1 (max t3 (x2 - x3)) (t4 + (1 : Int))) (
    some t3)
def l103_1 (s103 : Tm → Option Int) (n : Nat) : Nat → Tm → Int → Int → Option Int
  | 0, _, _, _ => none
  | m + 1, t1, t3, t4 => o103_1 s103 n (l103_1 s103 n m) t1 t3 t4
def f103 : Nat → Tm → Option Int
  | 0, _ => none
  | n + 1, a0 => o103_0 (f103 n) n (l103_1 (f103 n) n n) a0
def an103 : An := (.n none [] 0 .z (.n none [] 0 .z (.n none [] 0 .z (.n none [] 0 (.n none [] 0 .z (.n none [] 0 (.n (some 1) [(1, .ps 0 .tm false), (3, .one .c), (4, .one .c)] 1 .z .z) .z)) .z))))
def F103 : Fn := { f := 103, a := an103, vars := [.tmp 2], ps := [.st .tm], rs := [.sc .int], own := false, fr := true, nt := 32, D := 3, loops := [1] }
def cs103 (s103 : Tm → Option Int) (n : Nat) : List Cal := [⟨103, [.st .tm], [.sc .int], true, fun a => s103 a.1⟩, ⟨128, [.sc .int, .sc .int], [.sc .int], true, fun a => f128 a.1 a.2.1⟩]
def st103_1 (t1 : Tm) (t3 : Int) (t4 : Int) : SS := ⟨[(1, .v (.one (.ptr 0 0))), (3, .v (.one (.c (.int t3) true))), (4, .v (.one (.c (.int t4) true)))], [(0, some (.bst .tm t1 false))], 1⟩
theorem p103_0 (s103 : Tm → Option Int) (n : Nat) (lab : Nat → SS → Option (RT.den F103.rs)) (x : PTs.den F103.ps) : F103.body (bodyOf Try.f103) tabR tyR true (cs103 s103 n) lab x = o103_0 s103 n (fun t1 t3 t4 => lab 1 (st103_1 t1 t3 t4)) x.1 := by kernel_rfl
theorem p103_1 (s103 : Tm → Option Int) (n : Nat) (lab : Nat → SS → Option (RT.den F103.rs)) (t1 : Tm) (t3 : Int) (t4 : Int) : F103.at (bodyOf Try.f103) tabR tyR true (cs103 s103 n) lab 1 (st103_1 t1 t3 t4) = o103_1 s103 n (fun t1 t3 t4 => lab 1 (st103_1 t1 t3 t4)) t1 t3 t4 := by kernel_rfl
theorem m103_1 (s103 : Tm → Option Int) (n : Nat) : ∀ m : Nat, (∀ t1 t3 t4, F103.labM (bodyOf Try.f103) tabR tyR true (cs103 s103 n) m 1 (st103_1 t1 t3 t4) = l103_1 s103 n m t1 t3 t4) := by
  intro m
  induction m with
  | zero => exact fun _ _ _ => rfl
  | succ m ih =>
    intro t1 t3 t4
    have e1 : ∀ t1 t3 t4, F103.labX (bodyOf Try.f103) tabR tyR true (cs103 s103 n) (F103.labM (bodyOf Try.f103) tabR tyR true (cs103 s103 n) m) 2 1 (st103_1 t1 t3 t4) = (l103_1 s103 n m) t1 t3 t4 := fun t1 t3 t4 => (Fn.labX_loop _ _ _ _ _ _ _ _ _ _ (by kernel_rfl)).trans (ih t1 t3 t4)
    rw [Fn.labM_succ]
    show F103.labD (bodyOf Try.f103) tabR tyR true (cs103 s103 n) (F103.labM (bodyOf Try.f103) tabR tyR true (cs103 s103 n) m) (2 + 1) 1 _ = _
    rw [Fn.labD_succ, p103_1]
    simp only [e1]
    rfl
theorem w103 (s103 : Tm → Option Int) (n : Nat) (x : PTs.den F103.ps) : F103.body (bodyOf Try.f103) tabR tyR true (cs103 s103 n) (F103.labX (bodyOf Try.f103) tabR tyR true (cs103 s103 n) (F103.labM (bodyOf Try.f103) tabR tyR true (cs103 s103 n) n) F103.D) x = o103_0 s103 n (l103_1 s103 n n) x.1 := by
  have e1 : ∀ t1 t3 t4, F103.labX (bodyOf Try.f103) tabR tyR true (cs103 s103 n) (F103.labM (bodyOf Try.f103) tabR tyR true (cs103 s103 n) n) 3 1 (st103_1 t1 t3 t4) = (l103_1 s103 n n) t1 t3 t4 := fun t1 t3 t4 => (Fn.labX_loop _ _ _ _ _ _ _ _ _ _ (by kernel_rfl)).trans ((m103_1 s103 n n) t1 t3 t4)
  show F103.body (bodyOf Try.f103) tabR tyR true (cs103 s103 n) (F103.labX (bodyOf Try.f103) tabR tyR true (cs103 s103 n) (F103.labM (bodyOf Try.f103) tabR tyR true (cs103 s103 n) n) 3) x = _
  rw [p103_0]
  simp only [e1]
  try rfl
theorem call103 : Callable Try.prog 103 := callable_of Try.func103 (by kernel_rfl) (by kernel_rfl)
theorem okr103 : ∀ n : Nat, Cal.Ok Try.prog ⟨103, F103.ps, F103.rs, F103.fr, fun a => f103 n a.1⟩
  | 0 => ⟨by kernel_rfl, fun a r h => by cases h⟩
  | n + 1 => cal_of_fn F103 (code := bodyOf Try.f103) Try.func103 (by kernel_rfl) (by kernel_rfl) call103 htabR (cs := cs103 (f103 n) n) (fun c hc => by
      simp only [cs103, List.mem_cons, List.not_mem_nil, or_false] at hc
      rcases hc with rfl | rfl
      · exact (okr103 n)
      · exact ok128) (fun _ => mixed) (by kernel_rfl) (by kernel_rfl) (by decide) (fun x => ⟨n, w103 (f103 n) n x⟩)
theorem ok103 (n : Nat) : Cal.Ok Try.prog ⟨103, F103.ps, F103.rs, F103.fr, fun a => f103 n a.1⟩ := (okr103 n)
-- tranship/transhipref04.Free
def o52_0 (n : Nat) (a0 : Tm) : Option Int :=
  (f90 n a0).bind fun x1 =>
  ifB (!x1) (
    some (0 : Int)) (
    (f103 n a0).bind fun x2 =>
    some x2)
def f52 (n : Nat) (a0 : Tm) : Option Int := o52_0 n a0
def an52 : An := .z
def F52 : Fn := { f := 52, a := an52, vars := [.tmp 2], ps := [.st .tm], rs := [.sc .int], own := false, fr := true, nt := 8, D := 2, loops := [] }
def cs52 (n : Nat) : List Cal := [⟨90, [.st .tm], [.sc .bool], true, fun a => f90 n a.1⟩, ⟨103, [.st .tm], [.sc .int], true, fun a => f103 n a.1⟩]
theorem p52_0 (n : Nat) (lab : Nat → SS → Option (RT.den F52.rs)) (x : PTs.den F52.ps) : F52.body (bodyOf Try.f52) tabR tyR true (cs52 n) lab x = o52_0 n x.1 := by kernel_rfl
theorem w52 (n : Nat) (x : PTs.den F52.ps) : F52.body (bodyOf Try.f52) tabR tyR true (cs52 n) (F52.labX (bodyOf Try.f52) tabR tyR true (cs52 n) (F52.labM (bodyOf Try.f52) tabR tyR true (cs52 n) 0) F52.D) x = o52_0 n x.1 := by
  show F52.body (bodyOf Try.f52) tabR tyR true (cs52 n) (F52.labX (bodyOf Try.f52) tabR tyR true (cs52 n) (F52.labM (bodyOf Try.f52) tabR tyR true (cs52 n) 0) 2) x = _
  rw [p52_0]
theorem call52 : Callable Try.prog 52 := callable_of Try.func52 (by kernel_rfl) (by kernel_rfl)
theorem ok52 (n : Nat) : Cal.Ok Try.prog ⟨52, F52.ps, F52.rs, F52.fr, fun a => f52 n a.1⟩ :=
  cal_of_fn F52 (code := bodyOf Try.f52) Try.func52 (by kernel_rfl) (by kernel_rfl) call52 htabR (cs := cs52 n) (fun c hc => by
      simp only [cs52, List.mem_cons, List.not_mem_nil, or_false] at hc
      rcases hc with rfl | rfl
      · exact ok90 n
      · exact ok103 n) (fun _ => mixed) (by kernel_rfl) (by kernel_rfl) (by decide) (fun x => ⟨0, w52 n x⟩)
-- tranship/term.Same
-- tranship/term.moved
-- tranship/term.Pure
-- tranship/transhipref04.Pure
-- tranship/transhipref04.Same
-- tranship/bare.Sort
-- tranship/term.Size
end Go.Proofs.Ytcaahmielncmpaa
