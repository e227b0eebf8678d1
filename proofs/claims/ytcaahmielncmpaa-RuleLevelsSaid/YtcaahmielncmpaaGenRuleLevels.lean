/-
  What the statement computes, as a plain function.
-/
import Derived.Test.YtcaahmielncmpaaGenK
import Derived.Test.YtcaahmielncmpaaGenE
import Derived.Test.YtcaahmielncmpaaGenD
import Derived.Test.YtcaahmielncmpaaGenC
import Derived.Test.YtcaahmielncmpaaGenR
set_option linter.unusedSimpArgs false
set_option linter.unusedVariables false
namespace Go.Proofs.Ytcaahmielncmpaa
open Go Go.RowKit
set_option maxRecDepth 100000
-- tranship/transhiplaw15.heavy
def o58_0 (n : Nat) (a0 : List Ent) (a1 : List Jd) : Option Bool :=
  (f38 n a0 (60 : Int)).bind fun x1 =>
  ifB x1 (
    some true) (
    (f53 n a1 (180 : Int)).bind fun x2 =>
    ifB x2 (
      some true) (
      some (decide ((8 : Int) < (a1.length : Int)))))
def f58 (n : Nat) (a0 : List Ent) (a1 : List Jd) : Option Bool := o58_0 n a0 a1
def an58 : An := .z
def F58 : Fn := { f := 58, a := an58, vars := [.tmp 4], ps := [.sl .ent, .sl .jd], rs := [.sc .bool], own := false, fr := true, nt := 16, D := 2, loops := [] }
def cs58 (n : Nat) : List Cal := [⟨38, [.sl .ent, .sc .int], [.sc .bool], true, fun a => f38 n a.1 a.2.1⟩, ⟨53, [.sl .jd, .sc .int], [.sc .bool], true, fun a => f53 n a.1 a.2.1⟩]
theorem p58_0 (n : Nat) (lab : Nat → SS → Option (RT.den F58.rs)) (x : PTs.den F58.ps) : F58.body (bodyOf Try.f58) tabR tyR true (cs58 n) lab x = o58_0 n x.1 x.2.1 := by kernel_rfl
theorem w58 (n : Nat) (x : PTs.den F58.ps) : F58.body (bodyOf Try.f58) tabR tyR true (cs58 n) (F58.labX (bodyOf Try.f58) tabR tyR true (cs58 n) (F58.labM (bodyOf Try.f58) tabR tyR true (cs58 n) 0) F58.D) x = o58_0 n x.1 x.2.1 := by
  show F58.body (bodyOf Try.f58) tabR tyR true (cs58 n) (F58.labX (bodyOf Try.f58) tabR tyR true (cs58 n) (F58.labM (bodyOf Try.f58) tabR tyR true (cs58 n) 0) 2) x = _
  rw [p58_0]
theorem call58 : Callable Try.prog 58 := callable_of Try.func58 (by kernel_rfl) (by kernel_rfl)
theorem ok58 (n : Nat) : Cal.Ok Try.prog ⟨58, F58.ps, F58.rs, F58.fr, fun a => f58 n a.1 a.2.1⟩ :=
  cal_of_fn F58 (code := bodyOf Try.f58) Try.func58 (by kernel_rfl) (by kernel_rfl) call58 htabR (cs := cs58 n) (fun c hc => by
      simp only [cs58, List.mem_cons, List.not_mem_nil, or_false] at hc
      rcases hc with rfl | rfl
      · exact ok38 n
      · exact ok53 n) (fun _ => mixed) (by kernel_rfl) (by kernel_rfl) (by decide) (fun x => ⟨0, w58 n x⟩)
-- tranship/transhiplaw15.wakes
def o61_0 (n : Nat) : Option Bool :=
  (f62 n ([] : List Ent) (1 : Int) (3 : Int) ([] : List Jd)).bind fun x1 =>
  (f59 n ([] : List Ent) (3 : Int) (1 : Int) [(Jd.mk x1.1.eq (Tm.mk x1.1.u.kind x1.1.u.i x1.1.u.j x1.1.u.n x1.1.u.kids) (Tm.mk x1.1.v.kind x1.1.v.i x1.1.v.j x1.1.v.n x1.1.v.kids) (Tm.mk x1.1.a.kind x1.1.a.i x1.1.a.j x1.1.a.n x1.1.a.kids) x1.1.i)]).bind fun x2 =>
  (f62 n ([] : List Ent) (1 : Int) (901 : Int) ([] : List Jd)).bind fun x3 =>
  ifB x1.2 (
    ifB (decide (x1.1.i = (5 : Int))) (
      ifB (decide (x1.1.u.kind = (1 : Int))) (
        ifB (decide (x1.1.u.i = (3 : Int))) (
          ifB (decide (x1.1.a.i = (4 : Int))) (
            ifB x2.2 (
              ifB (decide ((x2.1.length : Int) = (1 : Int))) (
                atI x2.1 (0 : Int) fun x4 =>
                ifB (decide (x4.i = (4 : Int))) (
                  some (!x3.2)) (
                  some false)) (
                some false)) (
              some false)) (
            some false)) (
          some false)) (
        some false)) (
      some false)) (
    some false)
def f61 (n : Nat) : Option Bool := o61_0 n
def an61 : An := .z
def F61 : Fn := { f := 61, a := an61, vars := [.tmp 0], ps := [], rs := [.sc .bool], own := false, fr := true, nt := 64, D := 2, loops := [] }
def cs61 (n : Nat) : List Cal := [⟨59, [.sl .ent, .sc .int, .sc .int, .sl .jd], [.sl .ent, .sc .bool], true, fun a => f59 n a.1 a.2.1 a.2.2.1 a.2.2.2.1⟩, ⟨62, [.sl .ent, .sc .int, .sc .int, .sl .jd], [.st .jd, .sc .bool], true, fun a => f62 n a.1 a.2.1 a.2.2.1 a.2.2.2.1⟩]
theorem p61_0 (n : Nat) (lab : Nat → SS → Option (RT.den F61.rs)) (x : PTs.den F61.ps) : F61.body (bodyOf Try.f61) tabR tyR true (cs61 n) lab x = o61_0 n := by kernel_rfl
theorem w61 (n : Nat) (x : PTs.den F61.ps) : F61.body (bodyOf Try.f61) tabR tyR true (cs61 n) (F61.labX (bodyOf Try.f61) tabR tyR true (cs61 n) (F61.labM (bodyOf Try.f61) tabR tyR true (cs61 n) 0) F61.D) x = o61_0 n := by
  show F61.body (bodyOf Try.f61) tabR tyR true (cs61 n) (F61.labX (bodyOf Try.f61) tabR tyR true (cs61 n) (F61.labM (bodyOf Try.f61) tabR tyR true (cs61 n) 0) 2) x = _
  rw [p61_0]
theorem call61 : Callable Try.prog 61 := callable_of Try.func61 (by kernel_rfl) (by kernel_rfl)
theorem ok61 (n : Nat) : Cal.Ok Try.prog ⟨61, F61.ps, F61.rs, F61.fr, fun _ => f61 n⟩ :=
  cal_of_fn F61 (code := bodyOf Try.f61) Try.func61 (by kernel_rfl) (by kernel_rfl) call61 htabR (cs := cs61 n) (fun c hc => by
      simp only [cs61, List.mem_cons, List.not_mem_nil, or_false] at hc
      rcases hc with rfl | rfl
      · exact ok59 n
      · exact ok62 n) (fun _ => mixed) (by kernel_rfl) (by kernel_rfl) (by decide) (fun x => ⟨0, w61 n x⟩)
-- tranship/transhiplaw15.RuleLevels
def o14_0 (n : Nat) (k1 : (List Ent) → (List Jd) → (List Jd) → Option Bool) (a0 : List Ent) (a1 : List Jd) (a2 : List Jd) : Option Bool :=
  (f58 n a0 a1).bind fun x1 =>
  ifB x1 (
    some true) (
    (f58 n a0 a2).bind fun x2 =>
    ifB x2 (
      some true) (
      k1 a0 a1 a2))
def o14_1 (n : Nat) (k2 : (List Jd) → (List Jd) → Jd → Jd → Option Bool) (t0 : List Ent) (t1 : List Jd) (t2 : List Jd) : Option Bool :=
  (f62 n t0 (12 : Int) (0 : Int) t1).bind fun x3 =>
  (f62 n t0 (12 : Int) (0 : Int) t2).bind fun x4 =>
  ifB (!x3.2) (
    (f61 n).bind fun x5 =>
    some x5) (
    ifB (!x4.2) (
      (f61 n).bind fun x6 =>
      some x6) (
      k2 t1 t2 x3.1 x4.1))
def o14_2 (n : Nat) (k3 : (List Jd) → (List Jd) → Jd → Jd → Option Bool) (t1 : List Jd) (t2 : List Jd) (t7 : Jd) (t9 : Jd) : Option Bool :=
  ifB (!decide ((t1.length : Int) = (2 : Int))) (
    some false) (
    ifB (!decide ((t2.length : Int) = (2 : Int))) (
      some false) (
      k3 t1 t2 t7 t9))
def o14_3 (n : Nat) (t1 : List Jd) (t2 : List Jd) (t7 : Jd) (t9 : Jd) : Option Bool :=
  atI t1 (0 : Int) fun x7 =>
  ifB (decide (t7.i = x7.i)) (
    atI t2 (0 : Int) fun x8 =>
    ifB (decide (t9.i = x8.i)) (
      atI t1 (0 : Int) fun x9 =>
      (f23 n t7.u x9.u).bind fun x10 =>
      ifB x10 (
        atI t1 (1 : Int) fun x11 =>
        (f23 n t7.a x11.v).bind fun x12 =>
        ifB x12 (
          ifB (!t7.eq) (
            (f61 n).bind fun x13 =>
            some x13) (
            some false)) (
          some false)) (
        some false)) (
      some false)) (
    some false)
def c14_3 (n : Nat) (t1 : List Jd) (t2 : List Jd) (t7 : Jd) (t9 : Jd) : Option Bool :=
  o14_3 n t1 t2 t7 t9
def c14_2 (n : Nat) (t1 : List Jd) (t2 : List Jd) (t7 : Jd) (t9 : Jd) : Option Bool :=
  o14_2 n (c14_3 n) t1 t2 t7 t9
def c14_1 (n : Nat) (t0 : List Ent) (t1 : List Jd) (t2 : List Jd) : Option Bool :=
  o14_1 n (c14_2 n) t0 t1 t2
def f14 (n : Nat) (a0 : List Ent) (a1 : List Jd) (a2 : List Jd) : Option Bool := o14_0 n (c14_1 n) a0 a1 a2
def an14 : An := (.n none [] 0 .z (.n (some 1) [(0, .one (.d .ent false)), (1, .one (.d .jd false)), (2, .one (.d .jd false))] 0 .z (.n none [] 0 .z (.n none [] 0 .z (.n (some 2) [(1, .one (.d .jd false)), (2, .one (.d .jd false)), (7, .ps 0 .jd true), (9, .ps 1 .jd true)] 2 .z (.n (some 3) [(1, .one (.d .jd false)), (2, .one (.d .jd false)), (7, .ps 0 .jd true), (9, .ps 1 .jd true)] 2 .z .z))))))
def F14 : Fn := { f := 14, a := an14, vars := [.tmp 6], ps := [.sl .ent, .sl .jd, .sl .jd], rs := [.sc .bool], own := false, fr := true, nt := 88, D := 5, loops := [] }
def cs14 (n : Nat) : List Cal := [⟨23, [.st .tm, .st .tm], [.sc .bool], true, fun a => f23 n a.1 a.2.1⟩, ⟨58, [.sl .ent, .sl .jd], [.sc .bool], true, fun a => f58 n a.1 a.2.1⟩, ⟨61, [], [.sc .bool], true, fun a => f61 n⟩, ⟨62, [.sl .ent, .sc .int, .sc .int, .sl .jd], [.st .jd, .sc .bool], true, fun a => f62 n a.1 a.2.1 a.2.2.1 a.2.2.2.1⟩]
def st14_1 (t0 : List Ent) (t1 : List Jd) (t2 : List Jd) : SS := ⟨[(0, .v (.one (.c (.sl .ent t0) false))), (1, .v (.one (.c (.sl .jd t1) false))), (2, .v (.one (.c (.sl .jd t2) false)))], [], 0⟩
def st14_2 (t1 : List Jd) (t2 : List Jd) (t7 : Jd) (t9 : Jd) : SS := ⟨[(1, .v (.one (.c (.sl .jd t1) false))), (2, .v (.one (.c (.sl .jd t2) false))), (7, .v (.one (.ptr 0 0))), (9, .v (.one (.ptr 1 0)))], [(0, some (.bst .jd t7 true)), (1, some (.bst .jd t9 true))], 2⟩
def st14_3 (t1 : List Jd) (t2 : List Jd) (t7 : Jd) (t9 : Jd) : SS := ⟨[(1, .v (.one (.c (.sl .jd t1) false))), (2, .v (.one (.c (.sl .jd t2) false))), (7, .v (.one (.ptr 0 0))), (9, .v (.one (.ptr 1 0)))], [(0, some (.bst .jd t7 true)), (1, some (.bst .jd t9 true))], 2⟩
theorem p14_0 (n : Nat) (lab : Nat → SS → Option (RT.den F14.rs)) (x : PTs.den F14.ps) : F14.body (bodyOf Try.f14) tabR tyR true (cs14 n) lab x = o14_0 n (fun t0 t1 t2 => lab 1 (st14_1 t0 t1 t2)) x.1 x.2.1 x.2.2.1 := by kernel_rfl
theorem p14_1 (n : Nat) (lab : Nat → SS → Option (RT.den F14.rs)) (t0 : List Ent) (t1 : List Jd) (t2 : List Jd) : F14.at (bodyOf Try.f14) tabR tyR true (cs14 n) lab 1 (st14_1 t0 t1 t2) = o14_1 n (fun t1 t2 t7 t9 => lab 2 (st14_2 t1 t2 t7 t9)) t0 t1 t2 := by kernel_rfl
theorem p14_2 (n : Nat) (lab : Nat → SS → Option (RT.den F14.rs)) (t1 : List Jd) (t2 : List Jd) (t7 : Jd) (t9 : Jd) : F14.at (bodyOf Try.f14) tabR tyR true (cs14 n) lab 2 (st14_2 t1 t2 t7 t9) = o14_2 n (fun t1 t2 t7 t9 => lab 3 (st14_3 t1 t2 t7 t9)) t1 t2 t7 t9 := by kernel_rfl
theorem p14_3 (n : Nat) (lab : Nat → SS → Option (RT.den F14.rs)) (t1 : List Jd) (t2 : List Jd) (t7 : Jd) (t9 : Jd) : F14.at (bodyOf Try.f14) tabR tyR true (cs14 n) lab 3 (st14_3 t1 t2 t7 t9) = o14_3 n t1 t2 t7 t9 := by kernel_rfl
theorem n14_3 (n : Nat) (rec : Nat → SS → Option (RT.den F14.rs)) (d : Nat) (t1 : List Jd) (t2 : List Jd) (t7 : Jd) (t9 : Jd) : F14.labD (bodyOf Try.f14) tabR tyR true (cs14 n) rec (d + 1) 3 (st14_3 t1 t2 t7 t9) = c14_3 n t1 t2 t7 t9 := by
  show F14.labD (bodyOf Try.f14) tabR tyR true (cs14 n) rec (d + 1) 3 _ = _
  rw [Fn.labD_succ, p14_3]
  rfl
theorem n14_2 (n : Nat) (rec : Nat → SS → Option (RT.den F14.rs)) (d : Nat) (t1 : List Jd) (t2 : List Jd) (t7 : Jd) (t9 : Jd) : F14.labD (bodyOf Try.f14) tabR tyR true (cs14 n) rec (d + 2) 2 (st14_2 t1 t2 t7 t9) = c14_2 n t1 t2 t7 t9 := by
  have e3 : ∀ t1 t2 t7 t9, F14.labX (bodyOf Try.f14) tabR tyR true (cs14 n) rec (d + 1) 3 (st14_3 t1 t2 t7 t9) = c14_3 n t1 t2 t7 t9 := fun t1 t2 t7 t9 => (Fn.labX_step _ _ _ _ _ _ _ _ _ _ (by kernel_rfl)).trans (n14_3 n rec d t1 t2 t7 t9)
  show F14.labD (bodyOf Try.f14) tabR tyR true (cs14 n) rec ((d + 1) + 1) 2 _ = _
  rw [Fn.labD_succ, p14_2]
  simp only [e3]
  rfl
theorem n14_1 (n : Nat) (rec : Nat → SS → Option (RT.den F14.rs)) (d : Nat) (t0 : List Ent) (t1 : List Jd) (t2 : List Jd) : F14.labD (bodyOf Try.f14) tabR tyR true (cs14 n) rec (d + 3) 1 (st14_1 t0 t1 t2) = c14_1 n t0 t1 t2 := by
  have e2 : ∀ t1 t2 t7 t9, F14.labX (bodyOf Try.f14) tabR tyR true (cs14 n) rec (d + 2) 2 (st14_2 t1 t2 t7 t9) = c14_2 n t1 t2 t7 t9 := fun t1 t2 t7 t9 => (Fn.labX_step _ _ _ _ _ _ _ _ _ _ (by kernel_rfl)).trans (n14_2 n rec d t1 t2 t7 t9)
  show F14.labD (bodyOf Try.f14) tabR tyR true (cs14 n) rec ((d + 2) + 1) 1 _ = _
  rw [Fn.labD_succ, p14_1]
  simp only [e2]
  rfl
theorem w14 (n : Nat) (x : PTs.den F14.ps) : F14.body (bodyOf Try.f14) tabR tyR true (cs14 n) (F14.labX (bodyOf Try.f14) tabR tyR true (cs14 n) (F14.labM (bodyOf Try.f14) tabR tyR true (cs14 n) 0) F14.D) x = o14_0 n (c14_1 n) x.1 x.2.1 x.2.2.1 := by
  have e1 : ∀ t0 t1 t2, F14.labX (bodyOf Try.f14) tabR tyR true (cs14 n) (F14.labM (bodyOf Try.f14) tabR tyR true (cs14 n) 0) 5 1 (st14_1 t0 t1 t2) = c14_1 n t0 t1 t2 := fun t0 t1 t2 => (Fn.labX_step _ _ _ _ _ _ _ _ _ _ (by kernel_rfl)).trans (n14_1 n (F14.labM (bodyOf Try.f14) tabR tyR true (cs14 n) 0) 2 t0 t1 t2)
  show F14.body (bodyOf Try.f14) tabR tyR true (cs14 n) (F14.labX (bodyOf Try.f14) tabR tyR true (cs14 n) (F14.labM (bodyOf Try.f14) tabR tyR true (cs14 n) 0) 5) x = _
  rw [p14_0]
  simp only [e1]
  try rfl
theorem call14 : Callable Try.prog 14 := callable_of Try.func14 (by kernel_rfl) (by kernel_rfl)
theorem ok14 (n : Nat) : Cal.Ok Try.prog ⟨14, F14.ps, F14.rs, F14.fr, fun a => f14 n a.1 a.2.1 a.2.2.1⟩ :=
  cal_of_fn F14 (code := bodyOf Try.f14) Try.func14 (by kernel_rfl) (by kernel_rfl) call14 htabR (cs := cs14 n) (fun c hc => by
      simp only [cs14, List.mem_cons, List.not_mem_nil, or_false] at hc
      rcases hc with rfl | rfl | rfl | rfl
      · exact ok23 n
      · exact ok58 n
      · exact ok61 n
      · exact ok62 n) (fun _ => mixed) (by kernel_rfl) (by kernel_rfl) (by decide) (fun x => ⟨0, w14 n x⟩)
end Go.Proofs.Ytcaahmielncmpaa
