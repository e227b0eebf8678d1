/-
  What the statement computes, as a plain function.
-/
import Derived.Test.YtcaahmielncmpaaGenK
import Derived.Test.YtcaahmielncmpaaGenE
import Derived.Test.YtcaahmielncmpaaGenD
import Derived.Test.YtcaahmielncmpaaGenC
import Derived.Test.YtcaahmielncmpaaGenR
import Derived.Test.YtcaahmielncmpaaGenH
set_option linter.unusedSimpArgs false
set_option linter.unusedVariables false
namespace Go.Proofs.Ytcaahmielncmpaa
open Go Go.RowKit
set_option maxRecDepth 100000
-- tranship/transhiplaw16.heavy
def o66_0 (n : Nat) (a0 : List Ent) (a1 : Dv) : Option Bool :=
  (f38 n a0 (60 : Int)).bind fun x1 =>
  ifB x1 (
    some true) (
    (f72 n a1 (40 : Int)).bind fun x2 =>
    some x2)
def f66 (n : Nat) (a0 : List Ent) (a1 : Dv) : Option Bool := o66_0 n a0 a1
def an66 : An := .z
def F66 : Fn := { f := 66, a := an66, vars := [.tmp 4], ps := [.sl .ent, .st .dv], rs := [.sc .bool], own := false, fr := true, nt := 11, D := 2, loops := [] }
def cs66 (n : Nat) : List Cal := [⟨38, [.sl .ent, .sc .int], [.sc .bool], true, fun a => f38 n a.1 a.2.1⟩, ⟨72, [.st .dv, .sc .int], [.sc .bool], true, fun a => f72 n a.1 a.2.1⟩]
theorem p66_0 (n : Nat) (lab : Nat → SS → Option (RT.den F66.rs)) (x : PTs.den F66.ps) : F66.body (bodyOf Try.f66) tabR tyR true (cs66 n) lab x = o66_0 n x.1 x.2.1 := by kernel_rfl
theorem w66 (n : Nat) (x : PTs.den F66.ps) : F66.body (bodyOf Try.f66) tabR tyR true (cs66 n) (F66.labX (bodyOf Try.f66) tabR tyR true (cs66 n) (F66.labM (bodyOf Try.f66) tabR tyR true (cs66 n) 0) F66.D) x = o66_0 n x.1 x.2.1 := by
  show F66.body (bodyOf Try.f66) tabR tyR true (cs66 n) (F66.labX (bodyOf Try.f66) tabR tyR true (cs66 n) (F66.labM (bodyOf Try.f66) tabR tyR true (cs66 n) 0) 2) x = _
  rw [p66_0]
theorem call66 : Callable Try.prog 66 := callable_of Try.func66 (by kernel_rfl) (by kernel_rfl)
theorem ok66 (n : Nat) : Cal.Ok Try.prog ⟨66, F66.ps, F66.rs, F66.fr, fun a => f66 n a.1 a.2.1⟩ :=
  cal_of_fn F66 (code := bodyOf Try.f66) Try.func66 (by kernel_rfl) (by kernel_rfl) call66 htabR (cs := cs66 n) (fun c hc => by
      simp only [cs66, List.mem_cons, List.not_mem_nil, or_false] at hc
      rcases hc with rfl | rfl
      · exact ok38 n
      · exact ok72 n) (fun _ => mixed) (by kernel_rfl) (by kernel_rfl) (by decide) (fun x => ⟨0, w66 n x⟩)
-- tranship/transhiplaw16.held
def o67_0 (a0 : Nat) : Option Nat :=
  ifB (fGt a0 4652007308841189376) (
    some 4652007308841189376) (
    some a0)
def f67 (a0 : Nat) : Option Nat := o67_0 a0
def an67 : An := .z
def F67 : Fn := { f := 67, a := an67, vars := [.tmp 2], ps := [.sc .flt], rs := [.sc .flt], own := false, fr := true, nt := 6, D := 2, loops := [] }
def cs67 : List Cal := []
theorem p67_0 (lab : Nat → SS → Option (RT.den F67.rs)) (x : PTs.den F67.ps) : F67.body (bodyOf Try.f67) tabR tyR true cs67 lab x = o67_0 x.1 := by kernel_rfl
theorem w67 (x : PTs.den F67.ps) : F67.body (bodyOf Try.f67) tabR tyR true cs67 (F67.labX (bodyOf Try.f67) tabR tyR true cs67 (F67.labM (bodyOf Try.f67) tabR tyR true cs67 0) F67.D) x = o67_0 x.1 := by
  show F67.body (bodyOf Try.f67) tabR tyR true cs67 (F67.labX (bodyOf Try.f67) tabR tyR true cs67 (F67.labM (bodyOf Try.f67) tabR tyR true cs67 0) 2) x = _
  rw [p67_0]
theorem call67 : Callable Try.prog 67 := callable_of Try.func67 (by kernel_rfl) (by kernel_rfl)
theorem ok67 : Cal.Ok Try.prog ⟨67, F67.ps, F67.rs, F67.fr, fun a => f67 a.1⟩ :=
  cal_of_fn F67 (code := bodyOf Try.f67) Try.func67 (by kernel_rfl) (by kernel_rfl) call67 htabR (cs := cs67) (fun c hc => by simp only [cs67, List.not_mem_nil] at hc) (fun _ => mixed) (by kernel_rfl) (by kernel_rfl) (by decide) (fun x => ⟨0, w67 x⟩)
-- tranship/transhiplaw16.wakes
def o69_0 (n : Nat) : Option Bool :=
  (f68 n ([] : List Ent) (Dv.mk (1 : Int) (0 : Int) ([] : List Dv)) 4611686018427387904).bind fun x1 =>
  (f68 n ([] : List Ent) (Dv.mk (1 : Int) (0 : Int) ([] : List Dv)) 4607182418800017408).bind fun x2 =>
  ifB (decide (x1.2.1 = (0 : Int))) (
    ifB (decide (x1.1.i = (2 : Int))) (
      ifB (decide (x1.1.a.i = (1 : Int))) (
        ifB (decide ((x1.2.2.length : Int) = (0 : Int))) (
          some (decide (x2.2.1 = (4 : Int)))) (
          some false)) (
        some false)) (
      some false)) (
    some false)
def f69 (n : Nat) : Option Bool := o69_0 n
def an69 : An := .z
def F69 : Fn := { f := 69, a := an69, vars := [.tmp 0], ps := [], rs := [.sc .bool], own := false, fr := true, nt := 41, D := 2, loops := [] }
def cs69 (n : Nat) : List Cal := [⟨68, [.sl .ent, .st .dv, .sc .flt], [.st .jd, .sc .int, .sl .int], true, fun a => f68 n a.1 a.2.1 a.2.2.1⟩]
theorem p69_0 (n : Nat) (lab : Nat → SS → Option (RT.den F69.rs)) (x : PTs.den F69.ps) : F69.body (bodyOf Try.f69) tabR tyR true (cs69 n) lab x = o69_0 n := by kernel_rfl
theorem w69 (n : Nat) (x : PTs.den F69.ps) : F69.body (bodyOf Try.f69) tabR tyR true (cs69 n) (F69.labX (bodyOf Try.f69) tabR tyR true (cs69 n) (F69.labM (bodyOf Try.f69) tabR tyR true (cs69 n) 0) F69.D) x = o69_0 n := by
  show F69.body (bodyOf Try.f69) tabR tyR true (cs69 n) (F69.labX (bodyOf Try.f69) tabR tyR true (cs69 n) (F69.labM (bodyOf Try.f69) tabR tyR true (cs69 n) 0) 2) x = _
  rw [p69_0]
theorem call69 : Callable Try.prog 69 := callable_of Try.func69 (by kernel_rfl) (by kernel_rfl)
theorem ok69 (n : Nat) : Cal.Ok Try.prog ⟨69, F69.ps, F69.rs, F69.fr, fun _ => f69 n⟩ :=
  cal_of_fn F69 (code := bodyOf Try.f69) Try.func69 (by kernel_rfl) (by kernel_rfl) call69 htabR (cs := cs69 n) (fun c hc => by
      simp only [cs69, List.mem_cons, List.not_mem_nil, or_false] at hc
      rcases hc with rfl
      · exact ok68 n) (fun _ => mixed) (by kernel_rfl) (by kernel_rfl) (by decide) (fun x => ⟨0, w69 n x⟩)
-- tranship/transhiplaw16.CheckMore
def o15_0 (n : Nat) (k1 : (List Ent) → Nat → Nat → Dv → Option Bool) (a0 : List Ent) (a1 : Dv) (a2 : Nat) (a3 : Nat) : Option Bool :=
  (f66 n a0 a1).bind fun x1 =>
  ifB x1 (
    some true) (
    (f67 a3).bind fun x2 =>
    (f67 a2).bind fun x3 =>
    ifB (!(fGe x2 x3)) (
      some true) (
      k1 a0 a2 a3 a1))
def o15_1 (n : Nat) (t0 : List Ent) (t2 : Nat) (t3 : Nat) (t5 : Dv) : Option Bool :=
  (f67 t2).bind fun x4 =>
  (f68 n t0 t5 x4).bind fun x5 =>
  (f67 t3).bind fun x6 =>
  (f68 n t0 t5 x6).bind fun x7 =>
  ifB (decide (x5.2.1 = (4 : Int))) (
    ifB (decide ((x5.2.2.length : Int) ≤ (200 : Int))) (
      (f69 n).bind fun x8 =>
      some x8) (
      some false)) (
    ifB (decide (x5.2.1 = x7.2.1)) (
      (f70 n x5.2.2 x7.2.2).bind fun x9 =>
      ifB x9 (
        (f56 n x5.1 x7.1).bind fun x10 =>
        ifB x10 (
          (f69 n).bind fun x11 =>
          some x11) (
          some false)) (
        some false)) (
      some false))
def c15_1 (n : Nat) (t0 : List Ent) (t2 : Nat) (t3 : Nat) (t5 : Dv) : Option Bool :=
  o15_1 n t0 t2 t3 t5
def f15 (n : Nat) (a0 : List Ent) (a1 : Dv) (a2 : Nat) (a3 : Nat) : Option Bool := o15_0 n (c15_1 n) a0 a1 a2 a3
def an15 : An := (.n none [] 0 .z (.n (some 1) [(0, .one (.d .ent false)), (2, .one .c), (3, .one .c), (5, .ps 0 .dv false)] 1 .z .z))
def F15 : Fn := { f := 15, a := an15, vars := [.tmp 8], ps := [.sl .ent, .st .dv, .sc .flt, .sc .flt], rs := [.sc .bool], own := false, fr := true, nt := 68, D := 3, loops := [] }
def cs15 (n : Nat) : List Cal := [⟨56, [.st .jd, .st .jd], [.sc .bool], true, fun a => f56 n a.1 a.2.1⟩, ⟨66, [.sl .ent, .st .dv], [.sc .bool], true, fun a => f66 n a.1 a.2.1⟩, ⟨67, [.sc .flt], [.sc .flt], true, fun a => f67 a.1⟩, ⟨68, [.sl .ent, .st .dv, .sc .flt], [.st .jd, .sc .int, .sl .int], true, fun a => f68 n a.1 a.2.1 a.2.2.1⟩, ⟨69, [], [.sc .bool], true, fun a => f69 n⟩, ⟨70, [.sl .int, .sl .int], [.sc .bool], true, fun a => f70 n a.1 a.2.1⟩]
def st15_1 (t0 : List Ent) (t2 : Nat) (t3 : Nat) (t5 : Dv) : SS := ⟨[(0, .v (.one (.c (.sl .ent t0) false))), (2, .v (.one (.c (.flt t2) true))), (3, .v (.one (.c (.flt t3) true))), (5, .v (.one (.ptr 0 0)))], [(0, some (.bst .dv t5 false))], 1⟩
theorem p15_0 (n : Nat) (lab : Nat → SS → Option (RT.den F15.rs)) (x : PTs.den F15.ps) : F15.body (bodyOf Try.f15) tabR tyR true (cs15 n) lab x = o15_0 n (fun t0 t2 t3 t5 => lab 1 (st15_1 t0 t2 t3 t5)) x.1 x.2.1 x.2.2.1 x.2.2.2.1 := by kernel_rfl
theorem p15_1 (n : Nat) (lab : Nat → SS → Option (RT.den F15.rs)) (t0 : List Ent) (t2 : Nat) (t3 : Nat) (t5 : Dv) : F15.at (bodyOf Try.f15) tabR tyR true (cs15 n) lab 1 (st15_1 t0 t2 t3 t5) = o15_1 n t0 t2 t3 t5 := by kernel_rfl
theorem n15_1 (n : Nat) (rec : Nat → SS → Option (RT.den F15.rs)) (d : Nat) (t0 : List Ent) (t2 : Nat) (t3 : Nat) (t5 : Dv) : F15.labD (bodyOf Try.f15) tabR tyR true (cs15 n) rec (d + 1) 1 (st15_1 t0 t2 t3 t5) = c15_1 n t0 t2 t3 t5 := by
  show F15.labD (bodyOf Try.f15) tabR tyR true (cs15 n) rec (d + 1) 1 _ = _
  rw [Fn.labD_succ, p15_1]
  rfl
theorem w15 (n : Nat) (x : PTs.den F15.ps) : F15.body (bodyOf Try.f15) tabR tyR true (cs15 n) (F15.labX (bodyOf Try.f15) tabR tyR true (cs15 n) (F15.labM (bodyOf Try.f15) tabR tyR true (cs15 n) 0) F15.D) x = o15_0 n (c15_1 n) x.1 x.2.1 x.2.2.1 x.2.2.2.1 := by
  have e1 : ∀ t0 t2 t3 t5, F15.labX (bodyOf Try.f15) tabR tyR true (cs15 n) (F15.labM (bodyOf Try.f15) tabR tyR true (cs15 n) 0) 3 1 (st15_1 t0 t2 t3 t5) = c15_1 n t0 t2 t3 t5 := fun t0 t2 t3 t5 => (Fn.labX_step _ _ _ _ _ _ _ _ _ _ (by kernel_rfl)).trans (n15_1 n (F15.labM (bodyOf Try.f15) tabR tyR true (cs15 n) 0) 2 t0 t2 t3 t5)
  show F15.body (bodyOf Try.f15) tabR tyR true (cs15 n) (F15.labX (bodyOf Try.f15) tabR tyR true (cs15 n) (F15.labM (bodyOf Try.f15) tabR tyR true (cs15 n) 0) 3) x = _
  rw [p15_0]
  simp only [e1]
  try rfl
theorem call15 : Callable Try.prog 15 := callable_of Try.func15 (by kernel_rfl) (by kernel_rfl)
theorem ok15 (n : Nat) : Cal.Ok Try.prog ⟨15, F15.ps, F15.rs, F15.fr, fun a => f15 n a.1 a.2.1 a.2.2.1 a.2.2.2.1⟩ :=
  cal_of_fn F15 (code := bodyOf Try.f15) Try.func15 (by kernel_rfl) (by kernel_rfl) call15 htabR (cs := cs15 n) (fun c hc => by
      simp only [cs15, List.mem_cons, List.not_mem_nil, or_false] at hc
      rcases hc with rfl | rfl | rfl | rfl | rfl | rfl
      · exact ok56 n
      · exact ok66 n
      · exact ok67
      · exact ok68 n
      · exact ok69 n
      · exact ok70 n) (fun _ => mixed) (by kernel_rfl) (by kernel_rfl) (by decide) (fun x => ⟨0, w15 n x⟩)
end Go.Proofs.Ytcaahmielncmpaa
