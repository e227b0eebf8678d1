/-
  What the statement computes, as a plain function.
-/
import Derived.Test.YtcaahmielncmpaaGenK
import Derived.Test.YtcaahmielncmpaaGenE
import Derived.Test.YtcaahmielncmpaaGenD
import Derived.Test.YtcaahmielncmpaaGenC
import Derived.Test.YtcaahmielncmpaaGenR
import Derived.Test.YtcaahmielncmpaaGenH
set_option linter.unusedSimpArgs false
set_option linter.unusedVariables false
namespace Go.Proofs.Ytcaahmielncmpaa
open Go Go.RowKit
set_option maxRecDepth 100000
-- tranship/transhiplaw16.wakes
def o69_0 (n : Nat) : Option Bool :=
  (f68 n ([] : List Ent) (Dv.mk (1 : Int) (0 : Int) ([] : List Dv)) 4611686018427387904).bind fun x1 =>
  (f68 n ([] : List Ent) (Dv.mk (1 : Int) (0 : Int) ([] : List Dv)) 4607182418800017408).bind fun x2 =>
  ifB (decide (x1.2.1 = (0 : Int))) (
    ifB (decide (x1.1.i = (2 : Int))) (
      ifB (decide (x1.1.a.i = (1 : Int))) (
        ifB (decide ((x1.2.2.length : Int) = (0 : Int))) (
          some (decide (x2.2.1 = (4 : Int)))) (
          some false)) (
        some false)) (
      some false)) (
    some false)
def f69 (n : Nat) : Option Bool := o69_0 n
def an69 : An := .z
def F69 : Fn := { f := 69, a := an69, vars := [.tmp 0], ps := [], rs := [.sc .bool], own := false, fr := true, nt := 41, D := 2, loops := [] }
def cs69 (n : Nat) : List Cal := [⟨68, [.sl .ent, .st .dv, .sc .flt], [.st .jd, .sc .int, .sl .int], true, fun a => f68 n a.1 a.2.1 a.2.2.1⟩]
theorem p69_0 (n : Nat) (lab : Nat → SS → Option (RT.den F69.rs)) (x : PTs.den F69.ps) : F69.body (bodyOf Try.f69) tabR tyR true (cs69 n) lab x = o69_0 n := by kernel_rfl
theorem w69 (n : Nat) (x : PTs.den F69.ps) : F69.body (bodyOf Try.f69) tabR tyR true (cs69 n) (F69.labX (bodyOf Try.f69) tabR tyR true (cs69 n) (F69.labM (bodyOf Try.f69) tabR tyR true (cs69 n) 0) F69.D) x = o69_0 n := by
  show F69.body (bodyOf Try.f69) tabR tyR true (cs69 n) (F69.labX (bodyOf Try.f69) tabR tyR true (cs69 n) (F69.labM (bodyOf Try.f69) tabR tyR true (cs69 n) 0) 2) x = _
  rw [p69_0]
theorem call69 : Callable Try.prog 69 := callable_of Try.func69 (by kernel_rfl) (by kernel_rfl)
theorem ok69 (n : Nat) : Cal.Ok Try.prog ⟨69, F69.ps, F69.rs, F69.fr, fun _ => f69 n⟩ :=
  cal_of_fn F69 (code := bodyOf Try.f69) Try.func69 (by kernel_rfl) (by kernel_rfl) call69 htabR (cs := cs69 n) (fun c hc => by
      simp only [cs69, List.mem_cons, List.not_mem_nil, or_false] at hc
      rcases hc with rfl
      · exact ok68 n) (fun _ => mixed) (by kernel_rfl) (by kernel_rfl) (by decide) (fun x => ⟨0, w69 n x⟩)
-- tranship/transhiplaw16.CheckLevels
def o17_0 (n : Nat) (k1 : (List Dv) → Dv → Dv → Option Bool) (a0 : List Dv) (a1 : Dv) (a2 : Dv) : Option Bool :=
  (f71 n (Fl.mk a0 (Dv.mk a1.rule a1.i a1.kids)) (40 : Int)).bind fun x1 =>
  ifB x1 (
    some true) (
    (f72 n a2 (40 : Int)).bind fun x2 =>
    ifB x2 (
      some true) (
      k1 a0 a1 a2))
def o17_1 (n : Nat) (k2 : Jd → Jd → Option Bool) (t0 : List Dv) (t4 : Dv) (t5 : Dv) : Option Bool :=
  (f73 n t0 4652007308841189376).bind fun x3 =>
  ifB (!decide (x3.2.1 = (0 : Int))) (
    ifB (decide ((x3.1.length : Int) = (0 : Int))) (
      (f69 n).bind fun x4 =>
      some x4) (
      some false)) (
    (f68 n x3.1 t4 4652007308841189376).bind fun x5 =>
    (f68 n x3.1 t5 4652007308841189376).bind fun x6 =>
    ifB (!decide (x5.2.1 = (0 : Int))) (
      (f69 n).bind fun x7 =>
      some x7) (
      ifB (!decide (x6.2.1 = (0 : Int))) (
        (f69 n).bind fun x8 =>
        some x8) (
        (f23 n x5.1.u x6.1.u).bind fun x9 =>
        ifB (!x9) (
          (f69 n).bind fun x10 =>
          some x10) (
          k2 x5.1 x6.1))))
def o17_2 (n : Nat) (t10 : Jd) (t13 : Jd) : Option Bool :=
  ifB (decide (t10.i = t13.i)) (
    (f69 n).bind fun x11 =>
    some x11) (
    some false)
def c17_2 (n : Nat) (t10 : Jd) (t13 : Jd) : Option Bool :=
  o17_2 n t10 t13
def c17_1 (n : Nat) (t0 : List Dv) (t4 : Dv) (t5 : Dv) : Option Bool :=
  o17_1 n (c17_2 n) t0 t4 t5
def f17 (n : Nat) (a0 : List Dv) (a1 : Dv) (a2 : Dv) : Option Bool := o17_0 n (c17_1 n) a0 a1 a2
def an17 : An := (.n none [] 0 .z (.n (some 1) [(0, .one (.d .dv false)), (4, .ps 0 .dv false), (5, .ps 1 .dv false)] 2 .z (.n none [] 0 .z (.n none [] 0 .z (.n none [] 0 .z (.n none [] 0 .z (.n (some 2) [(10, .ps 0 .jd true), (13, .ps 1 .jd true)] 2 .z .z)))))))
def F17 : Fn := { f := 17, a := an17, vars := [.tmp 6], ps := [.sl .dv, .st .dv, .st .dv], rs := [.sc .bool], own := false, fr := true, nt := 75, D := 4, loops := [] }
def cs17 (n : Nat) : List Cal := [⟨23, [.st .tm, .st .tm], [.sc .bool], true, fun a => f23 n a.1 a.2.1⟩, ⟨68, [.sl .ent, .st .dv, .sc .flt], [.st .jd, .sc .int, .sl .int], true, fun a => f68 n a.1 a.2.1 a.2.2.1⟩, ⟨69, [], [.sc .bool], true, fun a => f69 n⟩, ⟨71, [.st .fl, .sc .int], [.sc .bool], true, fun a => f71 n a.1 a.2.1⟩, ⟨72, [.st .dv, .sc .int], [.sc .bool], true, fun a => f72 n a.1 a.2.1⟩, ⟨73, [.sl .dv, .sc .flt], [.sl .ent, .sc .int, .sl .int], true, fun a => f73 n a.1 a.2.1⟩]
def st17_1 (t0 : List Dv) (t4 : Dv) (t5 : Dv) : SS := ⟨[(0, .v (.one (.c (.sl .dv t0) false))), (4, .v (.one (.ptr 0 0))), (5, .v (.one (.ptr 1 0)))], [(0, some (.bst .dv t4 false)), (1, some (.bst .dv t5 false))], 2⟩
def st17_2 (t10 : Jd) (t13 : Jd) : SS := ⟨[(10, .v (.one (.ptr 0 0))), (13, .v (.one (.ptr 1 0)))], [(0, some (.bst .jd t10 true)), (1, some (.bst .jd t13 true))], 2⟩
theorem p17_0 (n : Nat) (lab : Nat → SS → Option (RT.den F17.rs)) (x : PTs.den F17.ps) : F17.body (bodyOf Try.f17) tabR tyR true (cs17 n) lab x = o17_0 n (fun t0 t4 t5 => lab 1 (st17_1 t0 t4 t5)) x.1 x.2.1 x.2.2.1 := by kernel_rfl
theorem p17_1 (n : Nat) (lab : Nat → SS → Option (RT.den F17.rs)) (t0 : List Dv) (t4 : Dv) (t5 : Dv) : F17.at (bodyOf Try.f17) tabR tyR true (cs17 n) lab 1 (st17_1 t0 t4 t5) = o17_1 n (fun t10 t13 => lab 2 (st17_2 t10 t13)) t0 t4 t5 := by kernel_rfl
theorem p17_2 (n : Nat) (lab : Nat → SS → Option (RT.den F17.rs)) (t10 : Jd) (t13 : Jd) : F17.at (bodyOf Try.f17) tabR tyR true (cs17 n) lab 2 (st17_2 t10 t13) = o17_2 n t10 t13 := by kernel_rfl
theorem n17_2 (n : Nat) (rec : Nat → SS → Option (RT.den F17.rs)) (d : Nat) (t10 : Jd) (t13 : Jd) : F17.labD (bodyOf Try.f17) tabR tyR true (cs17 n) rec (d + 1) 2 (st17_2 t10 t13) = c17_2 n t10 t13 := by
  show F17.labD (bodyOf Try.f17) tabR tyR true (cs17 n) rec (d + 1) 2 _ = _
  rw [Fn.labD_succ, p17_2]
  rfl
theorem n17_1 (n : Nat) (rec : Nat → SS → Option (RT.den F17.rs)) (d : Nat) (t0 : List Dv) (t4 : Dv) (t5 : Dv) : F17.labD (bodyOf Try.f17) tabR tyR true (cs17 n) rec (d + 2) 1 (st17_1 t0 t4 t5) = c17_1 n t0 t4 t5 := by
  have e2 : ∀ t10 t13, F17.labX (bodyOf Try.f17) tabR tyR true (cs17 n) rec (d + 1) 2 (st17_2 t10 t13) = c17_2 n t10 t13 := fun t10 t13 => (Fn.labX_step _ _ _ _ _ _ _ _ _ _ (by kernel_rfl)).trans (n17_2 n rec d t10 t13)
  show F17.labD (bodyOf Try.f17) tabR tyR true (cs17 n) rec ((d + 1) + 1) 1 _ = _
  rw [Fn.labD_succ, p17_1]
  simp only [e2]
  rfl
theorem w17 (n : Nat) (x : PTs.den F17.ps) : F17.body (bodyOf Try.f17) tabR tyR true (cs17 n) (F17.labX (bodyOf Try.f17) tabR tyR true (cs17 n) (F17.labM (bodyOf Try.f17) tabR tyR true (cs17 n) 0) F17.D) x = o17_0 n (c17_1 n) x.1 x.2.1 x.2.2.1 := by
  have e1 : ∀ t0 t4 t5, F17.labX (bodyOf Try.f17) tabR tyR true (cs17 n) (F17.labM (bodyOf Try.f17) tabR tyR true (cs17 n) 0) 4 1 (st17_1 t0 t4 t5) = c17_1 n t0 t4 t5 := fun t0 t4 t5 => (Fn.labX_step _ _ _ _ _ _ _ _ _ _ (by kernel_rfl)).trans (n17_1 n (F17.labM (bodyOf Try.f17) tabR tyR true (cs17 n) 0) 2 t0 t4 t5)
  show F17.body (bodyOf Try.f17) tabR tyR true (cs17 n) (F17.labX (bodyOf Try.f17) tabR tyR true (cs17 n) (F17.labM (bodyOf Try.f17) tabR tyR true (cs17 n) 0) 4) x = _
  rw [p17_0]
  simp only [e1]
  try rfl
theorem call17 : Callable Try.prog 17 := callable_of Try.func17 (by kernel_rfl) (by kernel_rfl)
theorem ok17 (n : Nat) : Cal.Ok Try.prog ⟨17, F17.ps, F17.rs, F17.fr, fun a => f17 n a.1 a.2.1 a.2.2.1⟩ :=
  cal_of_fn F17 (code := bodyOf Try.f17) Try.func17 (by kernel_rfl) (by kernel_rfl) call17 htabR (cs := cs17 n) (fun c hc => by
      simp only [cs17, List.mem_cons, List.not_mem_nil, or_false] at hc
      rcases hc with rfl | rfl | rfl | rfl | rfl | rfl
      · exact ok23 n
      · exact ok68 n
      · exact ok69 n
      · exact ok71 n
      · exact ok72 n
      · exact ok73 n) (fun _ => mixed) (by kernel_rfl) (by kernel_rfl) (by decide) (fun x => ⟨0, w17 n x⟩)
end Go.Proofs.Ytcaahmielncmpaa
