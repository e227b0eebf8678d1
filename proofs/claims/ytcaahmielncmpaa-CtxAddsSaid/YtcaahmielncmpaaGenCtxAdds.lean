/-
  What the statement computes, as a plain function.
-/
import Derived.Test.YtcaahmielncmpaaGenK
import Derived.Test.YtcaahmielncmpaaGenE
import Derived.Test.YtcaahmielncmpaaGenC
set_option linter.unusedSimpArgs false
set_option linter.unusedVariables false
namespace Go.Proofs.Ytcaahmielncmpaa
open Go Go.RowKit
set_option maxRecDepth 100000
-- tranship/transhiplaw11.wakes
def o43_0 (n : Nat) (k1 : (List Ent) → Option Bool) : Option Bool :=
  k1 [(Ent.mk (Tm.mk (1 : Int) (0 : Int) (0 : Int) (0 : Int) ([] : List Tm)) (1 : Int)), (Ent.mk (Tm.mk (2 : Int) (0 : Int) (0 : Int) (0 : Int) ([] : List Tm)) (0 : Int))]
def o43_1 (n : Nat) (t1 : List Ent) : Option Bool :=
  (f39 n t1 (0 : Int)).bind fun x1 =>
  (f41 n t1).bind fun x2 =>
  ifB x2 (
    ifB (decide (x1.1.kind = (2 : Int))) (
      ifB (decide (x1.1.i = (1 : Int))) (
        ifB (decide (x1.2.1 = (0 : Int))) (
          ifB x1.2.2 (
            (f46 n t1).bind fun x3 =>
            ifB (decide ((x3.length : Int) = (2 : Int))) (
              (f45 n t1).bind fun x4 =>
              some (decide ((x4.length : Int) = (2 : Int)))) (
              some false)) (
            some false)) (
          some false)) (
        some false)) (
      some false)) (
    some false)
def c43_1 (n : Nat) (t1 : List Ent) : Option Bool :=
  o43_1 n t1
def f43 (n : Nat) : Option Bool := o43_0 n (c43_1 n)
def an43 : An := (.n none [] 0 .z (.n (some 1) [(1, .one (.d .ent true))] 0 .z .z))
def F43 : Fn := { f := 43, a := an43, vars := [.tmp 0], ps := [], rs := [.sc .bool], own := false, fr := true, nt := 47, D := 3, loops := [] }
def cs43 (n : Nat) : List Cal := [⟨39, [.sl .ent, .sc .int], [.st .tm, .sc .int, .sc .bool], true, fun a => f39 n a.1 a.2.1⟩, ⟨41, [.sl .ent], [.sc .bool], true, fun a => f41 n a.1⟩, ⟨45, [.sl .ent], [.sl .ent], true, fun a => f45 n a.1⟩, ⟨46, [.sl .ent], [.sl .tm], true, fun a => f46 n a.1⟩]
def st43_1 (t1 : List Ent) : SS := ⟨[(1, .v (.one (.c (.sl .ent t1) true)))], [], 0⟩
theorem p43_0 (n : Nat) (lab : Nat → SS → Option (RT.den F43.rs)) (x : PTs.den F43.ps) : F43.body (bodyOf Try.f43) tabR tyR true (cs43 n) lab x = o43_0 n (fun t1 => lab 1 (st43_1 t1)) := by kernel_rfl
theorem p43_1 (n : Nat) (lab : Nat → SS → Option (RT.den F43.rs)) (t1 : List Ent) : F43.at (bodyOf Try.f43) tabR tyR true (cs43 n) lab 1 (st43_1 t1) = o43_1 n t1 := by kernel_rfl
theorem n43_1 (n : Nat) (rec : Nat → SS → Option (RT.den F43.rs)) (d : Nat) (t1 : List Ent) : F43.labD (bodyOf Try.f43) tabR tyR true (cs43 n) rec (d + 1) 1 (st43_1 t1) = c43_1 n t1 := by
  show F43.labD (bodyOf Try.f43) tabR tyR true (cs43 n) rec (d + 1) 1 _ = _
  rw [Fn.labD_succ, p43_1]
  rfl
theorem w43 (n : Nat) (x : PTs.den F43.ps) : F43.body (bodyOf Try.f43) tabR tyR true (cs43 n) (F43.labX (bodyOf Try.f43) tabR tyR true (cs43 n) (F43.labM (bodyOf Try.f43) tabR tyR true (cs43 n) 0) F43.D) x = o43_0 n (c43_1 n) := by
  have e1 : ∀ t1, F43.labX (bodyOf Try.f43) tabR tyR true (cs43 n) (F43.labM (bodyOf Try.f43) tabR tyR true (cs43 n) 0) 3 1 (st43_1 t1) = c43_1 n t1 := fun t1 => (Fn.labX_step _ _ _ _ _ _ _ _ _ _ (by kernel_rfl)).trans (n43_1 n (F43.labM (bodyOf Try.f43) tabR tyR true (cs43 n) 0) 2 t1)
  show F43.body (bodyOf Try.f43) tabR tyR true (cs43 n) (F43.labX (bodyOf Try.f43) tabR tyR true (cs43 n) (F43.labM (bodyOf Try.f43) tabR tyR true (cs43 n) 0) 3) x = _
  rw [p43_0]
  simp only [e1]
  try rfl
theorem call43 : Callable Try.prog 43 := callable_of Try.func43 (by kernel_rfl) (by kernel_rfl)
theorem ok43 (n : Nat) : Cal.Ok Try.prog ⟨43, F43.ps, F43.rs, F43.fr, fun _ => f43 n⟩ :=
  cal_of_fn F43 (code := bodyOf Try.f43) Try.func43 (by kernel_rfl) (by kernel_rfl) call43 htabR (cs := cs43 n) (fun c hc => by
      simp only [cs43, List.mem_cons, List.not_mem_nil, or_false] at hc
      rcases hc with rfl | rfl | rfl | rfl
      · exact ok39 n
      · exact ok41 n
      · exact ok45 n
      · exact ok46 n) (fun _ => mixed) (by kernel_rfl) (by kernel_rfl) (by decide) (fun x => ⟨0, w43 n x⟩)
-- tranship/transhiplaw11.CtxAdds
def o9_0 (n : Nat) (k1 : (List Ent) → Int → Int → Tm → Option Bool) (a0 : List Ent) (a1 : Tm) (a2 : Int) (a3 : Int) : Option Bool :=
  (f38 n a0 (300 : Int)).bind fun x1 =>
  ifB x1 (
    some true) (
    (f19 n a1 (300 : Int)).bind fun x2 =>
    ifB x2 (
      some true) (
      k1 a0 a2 a3 a1))
def o9_1 (n : Nat) (k2 : (List Ent) → Int → Int → Tm → (List Ent) → Option Bool) (t0 : List Ent) (t2 : Int) (t3 : Int) (t5 : Tm) : Option Bool :=
  (f44 n t0).bind fun x3 =>
  ckB (decide ((x3.length + [(Ent.mk (Tm.mk (0 : Int) (0 : Int) (0 : Int) (0 : Int) ([] : List Tm)) (-9 : Int))].length) * 64 ≤ 140737488355328) && decide (x3.length + [(Ent.mk (Tm.mk (0 : Int) (0 : Int) (0 : Int) (0 : Int) ([] : List Tm)) (-9 : Int))].length ≤ 9223372036854775807)) <|
  ckB (decide (0 ≤ (t0.length : Int)) && decide ((t0.length : Int) ≤ ((x3 ++ [(Ent.mk (Tm.mk (0 : Int) (0 : Int) (0 : Int) (0 : Int) ([] : List Tm)) (-9 : Int))]).length : Int))) <|
  (f51 n (((x3 ++ [(Ent.mk (Tm.mk (0 : Int) (0 : Int) (0 : Int) (0 : Int) ([] : List Tm)) (-9 : Int))]).take (t0.length : Int).toNat).drop (0 : Int).toNat) t5 t2).bind fun x4 =>
  ckI ((t0.length : Int) + (1 : Int)) <|
  ifB (!decide ((x4.length : Int) = ((t0.length : Int) + (1 : Int)))) (
    some false) (
    ckB (decide (0 ≤ (0 : Int)) && (decide ((0 : Int) ≤ (t0.length : Int)) && decide ((t0.length : Int) ≤ x4.length))) <|
    (f47 n ((x4.take (t0.length : Int).toNat).drop (0 : Int).toNat) t0).bind fun x5 =>
    ifB (!x5) (
      some false) (
      atI x4 (t0.length : Int) fun x6 =>
      (f23 n x6.a t5).bind fun x7 =>
      ifB (!x7) (
        some false) (
        atI x4 (t0.length : Int) fun x8 =>
        ifB (!decide (x8.i = t2)) (
          some false) (
          ckI ((t0.length : Int) + (1 : Int)) <|
          ckB (decide (0 ≤ ((t0.length : Int) + (1 : Int))) && decide (((t0.length : Int) + (1 : Int)) ≤ ((x3 ++ [(Ent.mk (Tm.mk (0 : Int) (0 : Int) (0 : Int) (0 : Int) ([] : List Tm)) (-9 : Int))]).length : Int))) <|
          ckB (decide (0 ≤ (t0.length : Int)) && (decide ((t0.length : Int) < ((t0.length : Int) + (1 : Int))) && decide (((t0.length : Int) + (1 : Int)) ≤ ((x3 ++ [(Ent.mk (Tm.mk (0 : Int) (0 : Int) (0 : Int) (0 : Int) ([] : List Tm)) (-9 : Int))]).length : Int)))) <|
          atN (x3 ++ [(Ent.mk (Tm.mk (0 : Int) (0 : Int) (0 : Int) (0 : Int) ([] : List Tm)) (-9 : Int))]) (t0.length : Int).toNat fun x9 =>
          ifB (!decide (x9.i = (-9 : Int))) (
            some false) (
            k2 t0 t2 t3 t5 x4)))))
def o9_1g (g44 : List Ent → Option (List Ent)) (g51 : List Ent → Tm → Int → Option (List Ent)) (g47 : List Ent → List Ent → Option Bool) (g23 : Tm → Tm → Option Bool) (n : Nat) (k2 : (List Ent) → Int → Int → Tm → (List Ent) → Option Bool) (t0 : List Ent) (t2 : Int) (t3 : Int) (t5 : Tm) : Option Bool :=
  (g44 t0).bind fun x3 =>
  ckB (decide ((x3.length + [(Ent.mk (Tm.mk (0 : Int) (0 : Int) (0 : Int) (0 : Int) ([] : List Tm)) (-9 : Int))].length) * 64 ≤ 140737488355328) && decide (x3.length + [(Ent.mk (Tm.mk (0 : Int) (0 : Int) (0 : Int) (0 : Int) ([] : List Tm)) (-9 : Int))].length ≤ 9223372036854775807)) <|
  ckB (decide (0 ≤ (t0.length : Int)) && decide ((t0.length : Int) ≤ ((x3 ++ [(Ent.mk (Tm.mk (0 : Int) (0 : Int) (0 : Int) (0 : Int) ([] : List Tm)) (-9 : Int))]).length : Int))) <|
  (g51 (((x3 ++ [(Ent.mk (Tm.mk (0 : Int) (0 : Int) (0 : Int) (0 : Int) ([] : List Tm)) (-9 : Int))]).take (t0.length : Int).toNat).drop (0 : Int).toNat) t5 t2).bind fun x4 =>
  ckI ((t0.length : Int) + (1 : Int)) <|
  ifB (!decide ((x4.length : Int) = ((t0.length : Int) + (1 : Int)))) (
    some false) (
    ckB (decide (0 ≤ (0 : Int)) && (decide ((0 : Int) ≤ (t0.length : Int)) && decide ((t0.length : Int) ≤ x4.length))) <|
    (g47 ((x4.take (t0.length : Int).toNat).drop (0 : Int).toNat) t0).bind fun x5 =>
    ifB (!x5) (
      some false) (
      atI x4 (t0.length : Int) fun x6 =>
      (g23 x6.a t5).bind fun x7 =>
      ifB (!x7) (
        some false) (
        atI x4 (t0.length : Int) fun x8 =>
        ifB (!decide (x8.i = t2)) (
          some false) (
          ckI ((t0.length : Int) + (1 : Int)) <|
          ckB (decide (0 ≤ ((t0.length : Int) + (1 : Int))) && decide (((t0.length : Int) + (1 : Int)) ≤ ((x3 ++ [(Ent.mk (Tm.mk (0 : Int) (0 : Int) (0 : Int) (0 : Int) ([] : List Tm)) (-9 : Int))]).length : Int))) <|
          ckB (decide (0 ≤ (t0.length : Int)) && (decide ((t0.length : Int) < ((t0.length : Int) + (1 : Int))) && decide (((t0.length : Int) + (1 : Int)) ≤ ((x3 ++ [(Ent.mk (Tm.mk (0 : Int) (0 : Int) (0 : Int) (0 : Int) ([] : List Tm)) (-9 : Int))]).length : Int)))) <|
          atN (x3 ++ [(Ent.mk (Tm.mk (0 : Int) (0 : Int) (0 : Int) (0 : Int) ([] : List Tm)) (-9 : Int))]) (t0.length : Int).toNat fun x9 =>
          ifB (!decide (x9.i = (-9 : Int))) (
            some false) (
            k2 t0 t2 t3 t5 x4)))))
def o9_2 (n : Nat) (k3 : (List Ent) → Int → Int → Tm → (List Ent) → Bool → Option Bool) (t0 : List Ent) (t2 : Int) (t3 : Int) (t5 : Tm) (t10 : List Ent) : Option Bool :=
  (f42 n t0).bind fun x10 =>
  ifB (!x10) (
    k3 t0 t2 t3 t5 t10 true) (
    (f25 n t5).bind fun x11 =>
    ifB (!x11) (
      k3 t0 t2 t3 t5 t10 true) (
      (f52 n t5).bind fun x12 =>
      ifB (decide ((t0.length : Int) < x12)) (
        k3 t0 t2 t3 t5 t10 true) (
        ifB (decide (t2 < (0 : Int))) (
          k3 t0 t2 t3 t5 t10 true) (
          ifB (decide ((1000 : Int) < t2)) (
            k3 t0 t2 t3 t5 t10 true) (
            ifB (decide (t3 < (0 : Int))) (
              k3 t0 t2 t3 t5 t10 true) (
              k3 t0 t2 t3 t5 t10 (decide ((t0.length : Int) ≤ t3))))))))
def o9_3 (n : Nat) (t0 : List Ent) (t2 : Int) (t3 : Int) (t5 : Tm) (t10 : List Ent) (t119 : Bool) : Option Bool :=
  ifB t119 (
    (f41 n t10).bind fun x13 =>
    (f42 n t10).bind fun x14 =>
    ifB (x13 == x14) (
      (f43 n).bind fun x15 =>
      some x15) (
      some false)) (
    (f39 n t10 (0 : Int)).bind fun x16 =>
    ckI (t3 + (1 : Int)) <|
    (f39 n t10 (t3 + (1 : Int))).bind fun x17 =>
    (f39 n t0 t3).bind fun x18 =>
    ifB x16.2.2 (
      ifB x17.2.2 (
        ifB x18.2.2 (
          ifB (decide (x16.2.1 = t2)) (
            ifB (decide (x17.2.1 = x18.2.1)) (
              (f32 n t5 (1 : Int) (0 : Int)).bind fun x19 =>
              (f23 n x16.1 x19).bind fun x20 =>
              ifB x20 (
                (f32 n x18.1 (1 : Int) (0 : Int)).bind fun x21 =>
                (f23 n x17.1 x21).bind fun x22 =>
                ifB x22 (
                  (f43 n).bind fun x23 =>
                  some x23) (
                  some false)) (
                some false)) (
              some false)) (
            some false)) (
          some false)) (
        some false)) (
      some false))
def c9_3 (n : Nat) (t0 : List Ent) (t2 : Int) (t3 : Int) (t5 : Tm) (t10 : List Ent) (t119 : Bool) : Option Bool :=
  o9_3 n t0 t2 t3 t5 t10 t119
def c9_2 (n : Nat) (t0 : List Ent) (t2 : Int) (t3 : Int) (t5 : Tm) (t10 : List Ent) : Option Bool :=
  o9_2 n (c9_3 n) t0 t2 t3 t5 t10
def c9_1 (n : Nat) (t0 : List Ent) (t2 : Int) (t3 : Int) (t5 : Tm) : Option Bool :=
  o9_1 n (c9_2 n) t0 t2 t3 t5
def f9 (n : Nat) (a0 : List Ent) (a1 : Tm) (a2 : Int) (a3 : Int) : Option Bool := o9_0 n (c9_1 n) a0 a1 a2 a3
def an9 : An := (.n none [] 0 .z (.n (some 1) [(0, .one (.d .ent false)), (2, .one .c), (3, .one .c), (5, .ps 0 .tm false)] 1 .z (.n none [] 0 .z (.n none [] 0 .z (.n (some 2) [(0, .one (.d .ent false)), (2, .one .c), (3, .one .c), (5, .ps 0 .tm false), (10, .one (.d .ent true))] 1 .z (.n none [] 0 (.n (some 3) [(0, .one (.d .ent false)), (2, .one .c), (3, .one .c), (5, .ps 0 .tm false), (10, .one (.d .ent true)), (119, .one .c)] 1 .z .z) .z))))))
def F9 : Fn := { f := 9, a := an9, vars := [.tmp 8], ps := [.sl .ent, .st .tm, .sc .int, .sc .int], rs := [.sc .bool], own := false, fr := true, nt := 181, D := 5, loops := [] }
def cs9 (n : Nat) : List Cal := [⟨19, [.st .tm, .sc .int], [.sc .bool], true, fun a => f19 n a.1 a.2.1⟩, ⟨23, [.st .tm, .st .tm], [.sc .bool], true, fun a => f23 n a.1 a.2.1⟩, ⟨25, [.st .tm], [.sc .bool], true, fun a => f25 n a.1⟩, ⟨32, [.st .tm, .sc .int, .sc .int], [.st .tm], true, fun a => f32 n a.1 a.2.1 a.2.2.1⟩, ⟨38, [.sl .ent, .sc .int], [.sc .bool], true, fun a => f38 n a.1 a.2.1⟩, ⟨39, [.sl .ent, .sc .int], [.st .tm, .sc .int, .sc .bool], true, fun a => f39 n a.1 a.2.1⟩, ⟨41, [.sl .ent], [.sc .bool], true, fun a => f41 n a.1⟩, ⟨42, [.sl .ent], [.sc .bool], true, fun a => f42 n a.1⟩, ⟨43, [], [.sc .bool], true, fun a => f43 n⟩, ⟨44, [.sl .ent], [.own 45 .ent], true, fun a => f44 n a.1⟩, ⟨47, [.sl .ent, .sl .ent], [.sc .bool], true, fun a => f47 n a.1 a.2.1⟩, ⟨51, [.sl .ent, .st .tm, .sc .int], [.sl .ent], true, fun a => f51 n a.1 a.2.1 a.2.2.1⟩, ⟨52, [.st .tm], [.sc .int], true, fun a => f52 n a.1⟩]
def cs9g (g44 : List Ent → Option (List Ent)) (g51 : List Ent → Tm → Int → Option (List Ent)) (g47 : List Ent → List Ent → Option Bool) (g23 : Tm → Tm → Option Bool) (n : Nat) : List Cal := [⟨19, [.st .tm, .sc .int], [.sc .bool], true, fun a => f19 n a.1 a.2.1⟩, ⟨23, [.st .tm, .st .tm], [.sc .bool], true, fun a => g23 a.1 a.2.1⟩, ⟨25, [.st .tm], [.sc .bool], true, fun a => f25 n a.1⟩, ⟨32, [.st .tm, .sc .int, .sc .int], [.st .tm], true, fun a => f32 n a.1 a.2.1 a.2.2.1⟩, ⟨38, [.sl .ent, .sc .int], [.sc .bool], true, fun a => f38 n a.1 a.2.1⟩, ⟨39, [.sl .ent, .sc .int], [.st .tm, .sc .int, .sc .bool], true, fun a => f39 n a.1 a.2.1⟩, ⟨41, [.sl .ent], [.sc .bool], true, fun a => f41 n a.1⟩, ⟨42, [.sl .ent], [.sc .bool], true, fun a => f42 n a.1⟩, ⟨43, [], [.sc .bool], true, fun a => f43 n⟩, ⟨44, [.sl .ent], [.own 45 .ent], true, fun a => g44 a.1⟩, ⟨47, [.sl .ent, .sl .ent], [.sc .bool], true, fun a => g47 a.1 a.2.1⟩, ⟨51, [.sl .ent, .st .tm, .sc .int], [.sl .ent], true, fun a => g51 a.1 a.2.1 a.2.2.1⟩, ⟨52, [.st .tm], [.sc .int], true, fun a => f52 n a.1⟩]
def st9_1 (t0 : List Ent) (t2 : Int) (t3 : Int) (t5 : Tm) : SS := ⟨[(0, .v (.one (.c (.sl .ent t0) false))), (2, .v (.one (.c (.int t2) true))), (3, .v (.one (.c (.int t3) true))), (5, .v (.one (.ptr 0 0)))], [(0, some (.bst .tm t5 false))], 1⟩
def st9_2 (t0 : List Ent) (t2 : Int) (t3 : Int) (t5 : Tm) (t10 : List Ent) : SS := ⟨[(0, .v (.one (.c (.sl .ent t0) false))), (2, .v (.one (.c (.int t2) true))), (3, .v (.one (.c (.int t3) true))), (5, .v (.one (.ptr 0 0))), (10, .v (.one (.c (.sl .ent t10) true)))], [(0, some (.bst .tm t5 false))], 1⟩
def st9_3 (t0 : List Ent) (t2 : Int) (t3 : Int) (t5 : Tm) (t10 : List Ent) (t119 : Bool) : SS := ⟨[(0, .v (.one (.c (.sl .ent t0) false))), (2, .v (.one (.c (.int t2) true))), (3, .v (.one (.c (.int t3) true))), (5, .v (.one (.ptr 0 0))), (10, .v (.one (.c (.sl .ent t10) true))), (119, .v (.one (.c (.bool t119) true)))], [(0, some (.bst .tm t5 false))], 1⟩
theorem p9_0 (n : Nat) (lab : Nat → SS → Option (RT.den F9.rs)) (x : PTs.den F9.ps) : F9.body (bodyOf Try.f9) tabR tyR true (cs9 n) lab x = o9_0 n (fun t0 t2 t3 t5 => lab 1 (st9_1 t0 t2 t3 t5)) x.1 x.2.1 x.2.2.1 x.2.2.2.1 := by kernel_rfl
theorem p9_1g (g44 : List Ent → Option (List Ent)) (g51 : List Ent → Tm → Int → Option (List Ent)) (g47 : List Ent → List Ent → Option Bool) (g23 : Tm → Tm → Option Bool) (n : Nat) (lab : Nat → SS → Option (RT.den F9.rs)) (t0 : List Ent) (t2 : Int) (t3 : Int) (t5 : Tm) : F9.at (bodyOf Try.f9) tabR tyR true (cs9g g44 g51 g47 g23 n) lab 1 (st9_1 t0 t2 t3 t5) = o9_1g g44 g51 g47 g23 n (fun t0 t2 t3 t5 t10 => lab 2 (st9_2 t0 t2 t3 t5 t10)) t0 t2 t3 t5 := by kernel_rfl
theorem p9_1 (n : Nat) (lab : Nat → SS → Option (RT.den F9.rs)) (t0 : List Ent) (t2 : Int) (t3 : Int) (t5 : Tm) : F9.at (bodyOf Try.f9) tabR tyR true (cs9 n) lab 1 (st9_1 t0 t2 t3 t5) = o9_1 n (fun t0 t2 t3 t5 t10 => lab 2 (st9_2 t0 t2 t3 t5 t10)) t0 t2 t3 t5 := p9_1g (f44 n) (f51 n) (f47 n) (f23 n) n lab t0 t2 t3 t5
theorem p9_2 (n : Nat) (lab : Nat → SS → Option (RT.den F9.rs)) (t0 : List Ent) (t2 : Int) (t3 : Int) (t5 : Tm) (t10 : List Ent) : F9.at (bodyOf Try.f9) tabR tyR true (cs9 n) lab 2 (st9_2 t0 t2 t3 t5 t10) = o9_2 n (fun t0 t2 t3 t5 t10 t119 => lab 3 (st9_3 t0 t2 t3 t5 t10 t119)) t0 t2 t3 t5 t10 := by kernel_rfl
theorem p9_3 (n : Nat) (lab : Nat → SS → Option (RT.den F9.rs)) (t0 : List Ent) (t2 : Int) (t3 : Int) (t5 : Tm) (t10 : List Ent) (t119 : Bool) : F9.at (bodyOf Try.f9) tabR tyR true (cs9 n) lab 3 (st9_3 t0 t2 t3 t5 t10 t119) = o9_3 n t0 t2 t3 t5 t10 t119 := by kernel_rfl
theorem n9_3 (n : Nat) (rec : Nat → SS → Option (RT.den F9.rs)) (d : Nat) (t0 : List Ent) (t2 : Int) (t3 : Int) (t5 : Tm) (t10 : List Ent) (t119 : Bool) : F9.labD (bodyOf Try.f9) tabR tyR true (cs9 n) rec (d + 1) 3 (st9_3 t0 t2 t3 t5 t10 t119) = c9_3 n t0 t2 t3 t5 t10 t119 := by
  show F9.labD (bodyOf Try.f9) tabR tyR true (cs9 n) rec (d + 1) 3 _ = _
  rw [Fn.labD_succ, p9_3]
  rfl
theorem n9_2 (n : Nat) (rec : Nat → SS → Option (RT.den F9.rs)) (d : Nat) (t0 : List Ent) (t2 : Int) (t3 : Int) (t5 : Tm) (t10 : List Ent) : F9.labD (bodyOf Try.f9) tabR tyR true (cs9 n) rec (d + 2) 2 (st9_2 t0 t2 t3 t5 t10) = c9_2 n t0 t2 t3 t5 t10 := by
  have e3 : ∀ t0 t2 t3 t5 t10 t119, F9.labX (bodyOf Try.f9) tabR tyR true (cs9 n) rec (d + 1) 3 (st9_3 t0 t2 t3 t5 t10 t119) = c9_3 n t0 t2 t3 t5 t10 t119 := fun t0 t2 t3 t5 t10 t119 => (Fn.labX_step _ _ _ _ _ _ _ _ _ _ (by kernel_rfl)).trans (n9_3 n rec d t0 t2 t3 t5 t10 t119)
  show F9.labD (bodyOf Try.f9) tabR tyR true (cs9 n) rec ((d + 1) + 1) 2 _ = _
  rw [Fn.labD_succ, p9_2]
  simp only [e3]
  rfl
theorem n9_1 (n : Nat) (rec : Nat → SS → Option (RT.den F9.rs)) (d : Nat) (t0 : List Ent) (t2 : Int) (t3 : Int) (t5 : Tm) : F9.labD (bodyOf Try.f9) tabR tyR true (cs9 n) rec (d + 3) 1 (st9_1 t0 t2 t3 t5) = c9_1 n t0 t2 t3 t5 := by
  have e2 : ∀ t0 t2 t3 t5 t10, F9.labX (bodyOf Try.f9) tabR tyR true (cs9 n) rec (d + 2) 2 (st9_2 t0 t2 t3 t5 t10) = c9_2 n t0 t2 t3 t5 t10 := fun t0 t2 t3 t5 t10 => (Fn.labX_step _ _ _ _ _ _ _ _ _ _ (by kernel_rfl)).trans (n9_2 n rec d t0 t2 t3 t5 t10)
  show F9.labD (bodyOf Try.f9) tabR tyR true (cs9 n) rec ((d + 2) + 1) 1 _ = _
  rw [Fn.labD_succ, p9_1]
  simp only [e2]
  rfl
theorem w9 (n : Nat) (x : PTs.den F9.ps) : F9.body (bodyOf Try.f9) tabR tyR true (cs9 n) (F9.labX (bodyOf Try.f9) tabR tyR true (cs9 n) (F9.labM (bodyOf Try.f9) tabR tyR true (cs9 n) 0) F9.D) x = o9_0 n (c9_1 n) x.1 x.2.1 x.2.2.1 x.2.2.2.1 := by
  have e1 : ∀ t0 t2 t3 t5, F9.labX (bodyOf Try.f9) tabR tyR true (cs9 n) (F9.labM (bodyOf Try.f9) tabR tyR true (cs9 n) 0) 5 1 (st9_1 t0 t2 t3 t5) = c9_1 n t0 t2 t3 t5 := fun t0 t2 t3 t5 => (Fn.labX_step _ _ _ _ _ _ _ _ _ _ (by kernel_rfl)).trans (n9_1 n (F9.labM (bodyOf Try.f9) tabR tyR true (cs9 n) 0) 2 t0 t2 t3 t5)
  show F9.body (bodyOf Try.f9) tabR tyR true (cs9 n) (F9.labX (bodyOf Try.f9) tabR tyR true (cs9 n) (F9.labM (bodyOf Try.f9) tabR tyR true (cs9 n) 0) 5) x = _
  rw [p9_0]
  simp only [e1]
  try rfl
theorem call9 : Callable Try.prog 9 := callable_of Try.func9 (by kernel_rfl) (by kernel_rfl)
theorem ok9 (n : Nat) : Cal.Ok Try.prog ⟨9, F9.ps, F9.rs, F9.fr, fun a => f9 n a.1 a.2.1 a.2.2.1 a.2.2.2.1⟩ :=
  cal_of_fn F9 (code := bodyOf Try.f9) Try.func9 (by kernel_rfl) (by kernel_rfl) call9 htabR (cs := cs9 n) (fun c hc => by
      simp only [cs9, List.mem_cons, List.not_mem_nil, or_false] at hc
      rcases hc with rfl | rfl | rfl | rfl | rfl | rfl | rfl | rfl | rfl | rfl | rfl | rfl | rfl
      · exact ok19 n
      · exact ok23 n
      · exact ok25 n
      · exact ok32 n
      · exact ok38 n
      · exact ok39 n
      · exact ok41 n
      · exact ok42 n
      · exact ok43 n
      · exact ok44 n
      · exact ok47 n
      · exact ok51 n
      · exact ok52 n) (fun _ => mixed) (by kernel_rfl) (by kernel_rfl) (by decide) (fun x => ⟨0, w9 n x⟩)
end Go.Proofs.Ytcaahmielncmpaa
