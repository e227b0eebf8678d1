/-
  What the statement computes, as a plain function.
-/
import Derived.Test.YtcaahmielncmpaaGenK
import Derived.Test.YtcaahmielncmpaaGenE
import Derived.Test.YtcaahmielncmpaaGenD
import Derived.Test.YtcaahmielncmpaaGenC
import Derived.Test.YtcaahmielncmpaaGenR
set_option linter.unusedSimpArgs false
set_option linter.unusedVariables false
namespace Go.Proofs.Ytcaahmielncmpaa
open Go Go.RowKit
set_option maxRecDepth 100000
-- tranship/transhiplaw15.heavy
def o58_0 (n : Nat) (a0 : List Ent) (a1 : List Jd) : Option Bool :=
  (f38 n a0 (60 : Int)).bind fun x1 =>
  ifB x1 (
    some true) (
    (f53 n a1 (180 : Int)).bind fun x2 =>
    ifB x2 (
      some true) (
      some (decide ((8 : Int) < (a1.length : Int)))))
def f58 (n : Nat) (a0 : List Ent) (a1 : List Jd) : Option Bool := o58_0 n a0 a1
def an58 : An := .z
def F58 : Fn := { f := 58, a := an58, vars := [.tmp 4], ps := [.sl .ent, .sl .jd], rs := [.sc .bool], own := false, fr := true, nt := 16, D := 2, loops := [] }
def cs58 (n : Nat) : List Cal := [⟨38, [.sl .ent, .sc .int], [.sc .bool], true, fun a => f38 n a.1 a.2.1⟩, ⟨53, [.sl .jd, .sc .int], [.sc .bool], true, fun a => f53 n a.1 a.2.1⟩]
theorem p58_0 (n : Nat) (lab : Nat → SS → Option (RT.den F58.rs)) (x : PTs.den F58.ps) : F58.body (bodyOf Try.f58) tabR tyR true (cs58 n) lab x = o58_0 n x.1 x.2.1 := by kernel_rfl
theorem w58 (n : Nat) (x : PTs.den F58.ps) : F58.body (bodyOf Try.f58) tabR tyR true (cs58 n) (F58.labX (bodyOf Try.f58) tabR tyR true (cs58 n) (F58.labM (bodyOf Try.f58) tabR tyR true (cs58 n) 0) F58.D) x = o58_0 n x.1 x.2.1 := by
  show F58.body (bodyOf Try.f58) tabR tyR true (cs58 n) (F58.labX (bodyOf Try.f58) tabR tyR true (cs58 n) (F58.labM (bodyOf Try.f58) tabR tyR true (cs58 n) 0) 2) x = _
  rw [p58_0]
theorem call58 : Callable Try.prog 58 := callable_of Try.func58 (by kernel_rfl) (by kernel_rfl)
theorem ok58 (n : Nat) : Cal.Ok Try.prog ⟨58, F58.ps, F58.rs, F58.fr, fun a => f58 n a.1 a.2.1⟩ :=
  cal_of_fn F58 (code := bodyOf Try.f58) Try.func58 (by kernel_rfl) (by kernel_rfl) call58 htabR (cs := cs58 n) (fun c hc => by
      simp only [cs58, List.mem_cons, List.not_mem_nil, or_false] at hc
      rcases hc with rfl | rfl
      · exact ok38 n
      · exact ok53 n) (fun _ => mixed) (by kernel_rfl) (by kernel_rfl) (by decide) (fun x => ⟨0, w58 n x⟩)
-- tranship/transhiplaw15.wakes
def o61_0 (n : Nat) : Option Bool :=
  (f62 n ([] : List Ent) (1 : Int) (3 : Int) ([] : List Jd)).bind fun x1 =>
  (f59 n ([] : List Ent) (3 : Int) (1 : Int) [(Jd.mk x1.1.eq (Tm.mk x1.1.u.kind x1.1.u.i x1.1.u.j x1.1.u.n x1.1.u.kids) (Tm.mk x1.1.v.kind x1.1.v.i x1.1.v.j x1.1.v.n x1.1.v.kids) (Tm.mk x1.1.a.kind x1.1.a.i x1.1.a.j x1.1.a.n x1.1.a.kids) x1.1.i)]).bind fun x2 =>
  (f62 n ([] : List Ent) (1 : Int) (901 : Int) ([] : List Jd)).bind fun x3 =>
  ifB x1.2 (
    ifB (decide (x1.1.i = (5 : Int))) (
      ifB (decide (x1.1.u.kind = (1 : Int))) (
        ifB (decide (x1.1.u.i = (3 : Int))) (
          ifB (decide (x1.1.a.i = (4 : Int))) (
            ifB x2.2 (
              ifB (decide ((x2.1.length : Int) = (1 : Int))) (
                atI x2.1 (0 : Int) fun x4 =>
                ifB (decide (x4.i = (4 : Int))) (
                  some (!x3.2)) (
                  some false)) (
                some false)) (
              some false)) (
            some false)) (
          some false)) (
        some false)) (
      some false)) (
    some false)
def f61 (n : Nat) : Option Bool := o61_0 n
def an61 : An := .z
def F61 : Fn := { f := 61, a := an61, vars := [.tmp 0], ps := [], rs := [.sc .bool], own := false, fr := true, nt := 64, D := 2, loops := [] }
def cs61 (n : Nat) : List Cal := [⟨59, [.sl .ent, .sc .int, .sc .int, .sl .jd], [.sl .ent, .sc .bool], true, fun a => f59 n a.1 a.2.1 a.2.2.1 a.2.2.2.1⟩, ⟨62, [.sl .ent, .sc .int, .sc .int, .sl .jd], [.st .jd, .sc .bool], true, fun a => f62 n a.1 a.2.1 a.2.2.1 a.2.2.2.1⟩]
theorem p61_0 (n : Nat) (lab : Nat → SS → Option (RT.den F61.rs)) (x : PTs.den F61.ps) : F61.body (bodyOf Try.f61) tabR tyR true (cs61 n) lab x = o61_0 n := by kernel_rfl
theorem w61 (n : Nat) (x : PTs.den F61.ps) : F61.body (bodyOf Try.f61) tabR tyR true (cs61 n) (F61.labX (bodyOf Try.f61) tabR tyR true (cs61 n) (F61.labM (bodyOf Try.f61) tabR tyR true (cs61 n) 0) F61.D) x = o61_0 n := by
  show F61.body (bodyOf Try.f61) tabR tyR true (cs61 n) (F61.labX (bodyOf Try.f61) tabR tyR true (cs61 n) (F61.labM (bodyOf Try.f61) tabR tyR true (cs61 n) 0) 2) x = _
  rw [p61_0]
theorem call61 : Callable Try.prog 61 := callable_of Try.func61 (by kernel_rfl) (by kernel_rfl)
theorem ok61 (n : Nat) : Cal.Ok Try.prog ⟨61, F61.ps, F61.rs, F61.fr, fun _ => f61 n⟩ :=
  cal_of_fn F61 (code := bodyOf Try.f61) Try.func61 (by kernel_rfl) (by kernel_rfl) call61 htabR (cs := cs61 n) (fun c hc => by
      simp only [cs61, List.mem_cons, List.not_mem_nil, or_false] at hc
      rcases hc with rfl | rfl
      · exact ok59 n
      · exact ok62 n) (fun _ => mixed) (by kernel_rfl) (by kernel_rfl) (by decide) (fun x => ⟨0, w61 n x⟩)
-- tranship/transhiplaw15.RuleTurned
def o13_0 (n : Nat) (a0 : List Ent) (a1 : Jd) : Option Bool :=
  (f58 n a0 [(Jd.mk a1.eq (Tm.mk a1.u.kind a1.u.i a1.u.j a1.u.n a1.u.kids) (Tm.mk a1.v.kind a1.v.i a1.v.j a1.v.n a1.v.kids) (Tm.mk a1.a.kind a1.a.i a1.a.j a1.a.n a1.a.kids) a1.i)]).bind fun x1 =>
  ifB x1 (
    some true) (
    (f62 n a0 (14 : Int) (0 : Int) [(Jd.mk a1.eq (Tm.mk a1.u.kind a1.u.i a1.u.j a1.u.n a1.u.kids) (Tm.mk a1.v.kind a1.v.i a1.v.j a1.v.n a1.v.kids) (Tm.mk a1.a.kind a1.a.i a1.a.j a1.a.n a1.a.kids) a1.i)]).bind fun x2 =>
    ifB (!x2.2) (
      (f61 n).bind fun x3 =>
      some x3) (
      (f62 n a0 (14 : Int) (0 : Int) [(Jd.mk x2.1.eq (Tm.mk x2.1.u.kind x2.1.u.i x2.1.u.j x2.1.u.n x2.1.u.kids) (Tm.mk x2.1.v.kind x2.1.v.i x2.1.v.j x2.1.v.n x2.1.v.kids) (Tm.mk x2.1.a.kind x2.1.a.i x2.1.a.j x2.1.a.n x2.1.a.kids) x2.1.i)]).bind fun x4 =>
      (f62 n a0 (15 : Int) (0 : Int) [(Jd.mk a1.eq (Tm.mk a1.u.kind a1.u.i a1.u.j a1.u.n a1.u.kids) (Tm.mk a1.v.kind a1.v.i a1.v.j a1.v.n a1.v.kids) (Tm.mk a1.a.kind a1.a.i a1.a.j a1.a.n a1.a.kids) a1.i), (Jd.mk x2.1.eq (Tm.mk x2.1.u.kind x2.1.u.i x2.1.u.j x2.1.u.n x2.1.u.kids) (Tm.mk x2.1.v.kind x2.1.v.i x2.1.v.j x2.1.v.n x2.1.v.kids) (Tm.mk x2.1.a.kind x2.1.a.i x2.1.a.j x2.1.a.n x2.1.a.kids) x2.1.i)]).bind fun x5 =>
      ifB x4.2 (
        (f56 n x4.1 a1).bind fun x6 =>
        ifB x6 (
          ifB x5.2 (
            (f23 n x5.1.u a1.u).bind fun x7 =>
            ifB x7 (
              (f23 n x5.1.v a1.u).bind fun x8 =>
              ifB x8 (
                (f23 n x5.1.a a1.a).bind fun x9 =>
                ifB x9 (
                  ifB (decide (x5.1.i = a1.i)) (
                    ifB x5.1.eq (
                      (f61 n).bind fun x10 =>
                      some x10) (
                      some false)) (
                    some false)) (
                  some false)) (
                some false)) (
              some false)) (
            some false)) (
          some false)) (
        some false)))
def f13 (n : Nat) (a0 : List Ent) (a1 : Jd) : Option Bool := o13_0 n a0 a1
def an13 : An := .z
def F13 : Fn := { f := 13, a := an13, vars := [.tmp 4], ps := [.sl .ent, .st .jd], rs := [.sc .bool], own := false, fr := true, nt := 84, D := 2, loops := [] }
def cs13 (n : Nat) : List Cal := [⟨23, [.st .tm, .st .tm], [.sc .bool], true, fun a => f23 n a.1 a.2.1⟩, ⟨56, [.st .jd, .st .jd], [.sc .bool], true, fun a => f56 n a.1 a.2.1⟩, ⟨58, [.sl .ent, .sl .jd], [.sc .bool], true, fun a => f58 n a.1 a.2.1⟩, ⟨61, [], [.sc .bool], true, fun a => f61 n⟩, ⟨62, [.sl .ent, .sc .int, .sc .int, .sl .jd], [.st .jd, .sc .bool], true, fun a => f62 n a.1 a.2.1 a.2.2.1 a.2.2.2.1⟩]
theorem p13_0 (n : Nat) (lab : Nat → SS → Option (RT.den F13.rs)) (x : PTs.den F13.ps) : F13.body (bodyOf Try.f13) tabR tyR true (cs13 n) lab x = o13_0 n x.1 x.2.1 := by kernel_rfl
theorem w13 (n : Nat) (x : PTs.den F13.ps) : F13.body (bodyOf Try.f13) tabR tyR true (cs13 n) (F13.labX (bodyOf Try.f13) tabR tyR true (cs13 n) (F13.labM (bodyOf Try.f13) tabR tyR true (cs13 n) 0) F13.D) x = o13_0 n x.1 x.2.1 := by
  show F13.body (bodyOf Try.f13) tabR tyR true (cs13 n) (F13.labX (bodyOf Try.f13) tabR tyR true (cs13 n) (F13.labM (bodyOf Try.f13) tabR tyR true (cs13 n) 0) 2) x = _
  rw [p13_0]
theorem call13 : Callable Try.prog 13 := callable_of Try.func13 (by kernel_rfl) (by kernel_rfl)
theorem ok13 (n : Nat) : Cal.Ok Try.prog ⟨13, F13.ps, F13.rs, F13.fr, fun a => f13 n a.1 a.2.1⟩ :=
  cal_of_fn F13 (code := bodyOf Try.f13) Try.func13 (by kernel_rfl) (by kernel_rfl) call13 htabR (cs := cs13 n) (fun c hc => by
      simp only [cs13, List.mem_cons, List.not_mem_nil, or_false] at hc
      rcases hc with rfl | rfl | rfl | rfl | rfl
      · exact ok23 n
      · exact ok56 n
      · exact ok58 n
      · exact ok61 n
      · exact ok62 n) (fun _ => mixed) (by kernel_rfl) (by kernel_rfl) (by decide) (fun x => ⟨0, w13 n x⟩)
end Go.Proofs.Ytcaahmielncmpaa
