/-
  What the statement computes, as a plain function.
-/
import Derived.Test.YtcaahmielncmpaaGenK
import Derived.Test.YtcaahmielncmpaaGenE
import Derived.Test.YtcaahmielncmpaaGenC
set_option linter.unusedSimpArgs false
set_option linter.unusedVariables false
namespace Go.Proofs.Ytcaahmielncmpaa
open Go Go.RowKit
set_option maxRecDepth 100000
-- tranship/transhiplaw11.wakes
def o43_0 (n : Nat) (k1 : (List Ent) → Option Bool) : Option Bool :=
  k1 [(Ent.mk (Tm.mk (1 : Int) (0 : Int) (0 : Int) (0 : Int) ([] : List Tm)) (1 : Int)), (Ent.mk (Tm.mk (2 : Int) (0 : Int) (0 : Int) (0 : Int) ([] : List Tm)) (0 : Int))]
def o43_1 (n : Nat) (t1 : List Ent) : Option Bool :=
  (f39 n t1 (0 : Int)).bind fun x1 =>
  (f41 n t1).bind fun x2 =>
  ifB x2 (
    ifB (decide (x1.1.kind = (2 : Int))) (
      ifB (decide (x1.1.i = (1 : Int))) (
        ifB (decide (x1.2.1 = (0 : Int))) (
          ifB x1.2.2 (
            (f46 n t1).bind fun x3 =>
            ifB (decide ((x3.length : Int) = (2 : Int))) (
              (f45 n t1).bind fun x4 =>
              some (decide ((x4.length : Int) = (2 : Int)))) (
              some false)) (
            some false)) (
          some false)) (
        some false)) (
      some false)) (
    some false)
def c43_1 (n : Nat) (t1 : List Ent) : Option Bool :=
  o43_1 n t1
def f43 (n : Nat) : Option Bool := o43_0 n (c43_1 n)
def an43 : An := (.n none [] 0 .z (.n (some 1) [(1, .one (.d .ent true))] 0 .z .z))
def F43 : Fn := { f := 43, a := an43, vars := [.tmp 0], ps := [], rs := [.sc .bool], own := false, fr := true, nt := 47, D := 3, loops := [] }
def cs43 (n : Nat) : List Cal := [⟨39, [.sl .ent, .sc .int], [.st .tm, .sc .int, .sc .bool], true, fun a => f39 n a.1 a.2.1⟩, ⟨41, [.sl .ent], [.sc .bool], true, fun a => f41 n a.1⟩, ⟨45, [.sl .ent], [.sl .ent], true, fun a => f45 n a.1⟩, ⟨46, [.sl .ent], [.sl .tm], false, fun a => f46 n a.1⟩]
def st43_1 (t1 : List Ent) : SS := ⟨[(1, .v (.one (.c (.sl .ent t1) true)))], [], 0⟩
theorem p43_0 (n : Nat) (lab : Nat → SS → Option (RT.den F43.rs)) (x : PTs.den F43.ps) : F43.body (bodyOf Try.f43) tabR tyR true (cs43 n) lab x = o43_0 n (fun t1 => lab 1 (st43_1 t1)) := by kernel_rfl
theorem p43_1 (n : Nat) (lab : Nat → SS → Option (RT.den F43.rs)) (t1 : List Ent) : F43.at (bodyOf Try.f43) tabR tyR true (cs43 n) lab 1 (st43_1 t1) = o43_1 n t1 := by kernel_rfl
theorem n43_1 (n : Nat) (rec : Nat → SS → Option (RT.den F43.rs)) (d : Nat) (t1 : List Ent) : F43.labD (bodyOf Try.f43) tabR tyR true (cs43 n) rec (d + 1) 1 (st43_1 t1) = c43_1 n t1 := by
  show F43.labD (bodyOf Try.f43) tabR tyR true (cs43 n) rec (d + 1) 1 _ = _
  rw [Fn.labD_succ, p43_1]
  rfl
theorem w43 (n : Nat) (x : PTs.den F43.ps) : F43.body (bodyOf Try.f43) tabR tyR true (cs43 n) (F43.labX (bodyOf Try.f43) tabR tyR true (cs43 n) (F43.labM (bodyOf Try.f43) tabR tyR true (cs43 n) 0) F43.D) x = o43_0 n (c43_1 n) := by
  have e1 : ∀ t1, F43.labX (bodyOf Try.f43) tabR tyR true (cs43 n) (F43.labM (bodyOf Try.f43) tabR tyR true (cs43 n) 0) 3 1 (st43_1 t1) = c43_1 n t1 := fun t1 => (Fn.labX_step _ _ _ _ _ _ _ _ _ _ (by kernel_rfl)).trans (n43_1 n (F43.labM (bodyOf Try.f43) tabR tyR true (cs43 n) 0) 2 t1)
  show F43.body (bodyOf Try.f43) tabR tyR true (cs43 n) (F43.labX (bodyOf Try.f43) tabR tyR true (cs43 n) (F43.labM (bodyOf Try.f43) tabR tyR true (cs43 n) 0) 3) x = _
  rw [p43_0]
  simp only [e1]
  try rfl
theorem call43 : Callable Try.prog 43 := callable_of Try.func43 (by kernel_rfl) (by kernel_rfl)
theorem ok43 (n : Nat) : Cal.Ok Try.prog ⟨43, F43.ps, F43.rs, F43.fr, fun _ => f43 n⟩ :=
  cal_of_fn F43 (code := bodyOf Try.f43) Try.func43 (by kernel_rfl) (by kernel_rfl) call43 htabR (cs := cs43 n) (fun c hc => by
      simp only [cs43, List.mem_cons, List.not_mem_nil, or_false] at hc
      rcases hc with rfl | rfl | rfl | rfl
      · exact ok39 n
      · exact ok41 n
      · exact ok45 n
      · exact ok46 n) (fun _ => mixed) (by kernel_rfl) (by kernel_rfl) (by decide) (fun x => ⟨0, w43 n x⟩)
-- tranship/transhiplaw11.CtxSame
def o10_0 (n : Nat) (k1 : (List Ent) → (List Ent) → Jd → Jd → Option Bool) (a0 : List Ent) (a1 : List Ent) (a2 : Jd) (a3 : Jd) : Option Bool :=
  (f38 n a0 (300 : Int)).bind fun x1 =>
  ifB x1 (
    some true) (
    (f38 n a1 (300 : Int)).bind fun x2 =>
    ifB x2 (
      some true) (
      (f53 n [(Jd.mk a2.eq (Tm.mk a2.u.kind a2.u.i a2.u.j a2.u.n a2.u.kids) (Tm.mk a2.v.kind a2.v.i a2.v.j a2.v.n a2.v.kids) (Tm.mk a2.a.kind a2.a.i a2.a.j a2.a.n a2.a.kids) a2.i), (Jd.mk a3.eq (Tm.mk a3.u.kind a3.u.i a3.u.j a3.u.n a3.u.kids) (Tm.mk a3.v.kind a3.v.i a3.v.j a3.v.n a3.v.kids) (Tm.mk a3.a.kind a3.a.i a3.a.j a3.a.n a3.a.kids) a3.i)] (300 : Int)).bind fun x3 =>
      ifB x3 (
        some true) (
        k1 a0 a1 a2 a3)))
def o10_1 (n : Nat) (t0 : List Ent) (t1 : List Ent) (t6 : Jd) (t7 : Jd) : Option Bool :=
  (f54 n t0 t1).bind fun x4 =>
  (f47 n t0 t1).bind fun x5 =>
  ifB (x4 == x5) (
    (f44 n t0).bind fun x6 =>
    (f54 n t0 x6).bind fun x7 =>
    ifB x7 (
      (f55 n t6 t7).bind fun x8 =>
      (f56 n t6 t7).bind fun x9 =>
      ifB (x8 == x9) (
        (f57 n [(Jd.mk t7.eq (Tm.mk t7.u.kind t7.u.i t7.u.j t7.u.n t7.u.kids) (Tm.mk t7.v.kind t7.v.i t7.v.j t7.v.n t7.v.kids) (Tm.mk t7.a.kind t7.a.i t7.a.j t7.a.n t7.a.kids) t7.i)]).bind fun x10 =>
        atI x10 (0 : Int) fun x11 =>
        (f55 n t7 x11).bind fun x12 =>
        ifB x12 (
          (f43 n).bind fun x13 =>
          some x13) (
          some false)) (
        some false)) (
      some false)) (
    some false)
def c10_1 (n : Nat) (t0 : List Ent) (t1 : List Ent) (t6 : Jd) (t7 : Jd) : Option Bool :=
  o10_1 n t0 t1 t6 t7
def f10 (n : Nat) (a0 : List Ent) (a1 : List Ent) (a2 : Jd) (a3 : Jd) : Option Bool := o10_0 n (c10_1 n) a0 a1 a2 a3
def an10 : An := (.n none [] 0 .z (.n (some 1) [(0, .one (.d .ent false)), (1, .one (.d .ent false)), (6, .ps 0 .jd false), (7, .ps 1 .jd false)] 2 .z .z))
def F10 : Fn := { f := 10, a := an10, vars := [.tmp 8], ps := [.sl .ent, .sl .ent, .st .jd, .st .jd], rs := [.sc .bool], own := false, fr := true, nt := 55, D := 3, loops := [] }
def cs10 (n : Nat) : List Cal := [⟨38, [.sl .ent, .sc .int], [.sc .bool], true, fun a => f38 n a.1 a.2.1⟩, ⟨43, [], [.sc .bool], true, fun a => f43 n⟩, ⟨44, [.sl .ent], [.own 45 .ent], true, fun a => f44 n a.1⟩, ⟨47, [.sl .ent, .sl .ent], [.sc .bool], true, fun a => f47 n a.1 a.2.1⟩, ⟨53, [.sl .jd, .sc .int], [.sc .bool], true, fun a => f53 n a.1 a.2.1⟩, ⟨54, [.sl .ent, .sl .ent], [.sc .bool], true, fun a => f54 n a.1 a.2.1⟩, ⟨55, [.st .jd, .st .jd], [.sc .bool], true, fun a => f55 n a.1 a.2.1⟩, ⟨56, [.st .jd, .st .jd], [.sc .bool], true, fun a => f56 n a.1 a.2.1⟩, ⟨57, [.sl .jd], [.sl .jd], true, fun a => f57 n a.1⟩]
def st10_1 (t0 : List Ent) (t1 : List Ent) (t6 : Jd) (t7 : Jd) : SS := ⟨[(0, .v (.one (.c (.sl .ent t0) false))), (1, .v (.one (.c (.sl .ent t1) false))), (6, .v (.one (.ptr 0 0))), (7, .v (.one (.ptr 1 0)))], [(0, some (.bst .jd t6 false)), (1, some (.bst .jd t7 false))], 2⟩
theorem p10_0 (n : Nat) (lab : Nat → SS → Option (RT.den F10.rs)) (x : PTs.den F10.ps) : F10.body (bodyOf Try.f10) tabR tyR true (cs10 n) lab x = o10_0 n (fun t0 t1 t6 t7 => lab 1 (st10_1 t0 t1 t6 t7)) x.1 x.2.1 x.2.2.1 x.2.2.2.1 := by kernel_rfl
theorem p10_1 (n : Nat) (lab : Nat → SS → Option (RT.den F10.rs)) (t0 : List Ent) (t1 : List Ent) (t6 : Jd) (t7 : Jd) : F10.at (bodyOf Try.f10) tabR tyR true (cs10 n) lab 1 (st10_1 t0 t1 t6 t7) = o10_1 n t0 t1 t6 t7 := by kernel_rfl
theorem n10_1 (n : Nat) (rec : Nat → SS → Option (RT.den F10.rs)) (d : Nat) (t0 : List Ent) (t1 : List Ent) (t6 : Jd) (t7 : Jd) : F10.labD (bodyOf Try.f10) tabR tyR true (cs10 n) rec (d + 1) 1 (st10_1 t0 t1 t6 t7) = c10_1 n t0 t1 t6 t7 := by
  show F10.labD (bodyOf Try.f10) tabR tyR true (cs10 n) rec (d + 1) 1 _ = _
  rw [Fn.labD_succ, p10_1]
  rfl
theorem w10 (n : Nat) (x : PTs.den F10.ps) : F10.body (bodyOf Try.f10) tabR tyR true (cs10 n) (F10.labX (bodyOf Try.f10) tabR tyR true (cs10 n) (F10.labM (bodyOf Try.f10) tabR tyR true (cs10 n) 0) F10.D) x = o10_0 n (c10_1 n) x.1 x.2.1 x.2.2.1 x.2.2.2.1 := by
  have e1 : ∀ t0 t1 t6 t7, F10.labX (bodyOf Try.f10) tabR tyR true (cs10 n) (F10.labM (bodyOf Try.f10) tabR tyR true (cs10 n) 0) 3 1 (st10_1 t0 t1 t6 t7) = c10_1 n t0 t1 t6 t7 := fun t0 t1 t6 t7 => (Fn.labX_step _ _ _ _ _ _ _ _ _ _ (by kernel_rfl)).trans (n10_1 n (F10.labM (bodyOf Try.f10) tabR tyR true (cs10 n) 0) 2 t0 t1 t6 t7)
  show F10.body (bodyOf Try.f10) tabR tyR true (cs10 n) (F10.labX (bodyOf Try.f10) tabR tyR true (cs10 n) (F10.labM (bodyOf Try.f10) tabR tyR true (cs10 n) 0) 3) x = _
  rw [p10_0]
  simp only [e1]
  try rfl
theorem call10 : Callable Try.prog 10 := callable_of Try.func10 (by kernel_rfl) (by kernel_rfl)
theorem ok10 (n : Nat) : Cal.Ok Try.prog ⟨10, F10.ps, F10.rs, F10.fr, fun a => f10 n a.1 a.2.1 a.2.2.1 a.2.2.2.1⟩ :=
  cal_of_fn F10 (code := bodyOf Try.f10) Try.func10 (by kernel_rfl) (by kernel_rfl) call10 htabR (cs := cs10 n) (fun c hc => by
      simp only [cs10, List.mem_cons, List.not_mem_nil, or_false] at hc
      rcases hc with rfl | rfl | rfl | rfl | rfl | rfl | rfl | rfl | rfl
      · exact ok38 n
      · exact ok43 n
      · exact ok44 n
      · exact ok47 n
      · exact ok53 n
      · exact ok54 n
      · exact ok55 n
      · exact ok56 n
      · exact ok57 n) (fun _ => mixed) (by kernel_rfl) (by kernel_rfl) (by decide) (fun x => ⟨0, w10 n x⟩)
end Go.Proofs.Ytcaahmielncmpaa
