/-
  What the statement computes, as a plain function.
-/
import Derived.Test.YtcaahmielncmpaaGenK
import Derived.Test.YtcaahmielncmpaaGenE
import Derived.Test.YtcaahmielncmpaaGenD
import Derived.Test.YtcaahmielncmpaaGenC
import Derived.Test.YtcaahmielncmpaaGenR
set_option linter.unusedSimpArgs false
set_option linter.unusedVariables false
namespace Go.Proofs.Ytcaahmielncmpaa
open Go Go.RowKit
set_option maxRecDepth 100000
-- tranship/transhiplaw15.heavy
def o58_0 (n : Nat) (a0 : List Ent) (a1 : List Jd) : Option Bool :=
  (f38 n a0 (60 : Int)).bind fun x1 =>
  ifB x1 (
    some true) (
    (f53 n a1 (180 : Int)).bind fun x2 =>
    ifB x2 (
      some true) (
      some (decide ((8 : Int) < (a1.length : Int)))))
def f58 (n : Nat) (a0 : List Ent) (a1 : List Jd) : Option Bool := o58_0 n a0 a1
def an58 : An := .z
def F58 : Fn := { f := 58, a := an58, vars := [.tmp 4], ps := [.sl .ent, .sl .jd], rs := [.sc .bool], own := false, fr := true, nt := 16, D := 2, loops := [] }
def cs58 (n : Nat) : List Cal := [⟨38, [.sl .ent, .sc .int], [.sc .bool], true, fun a => f38 n a.1 a.2.1⟩, ⟨53, [.sl .jd, .sc .int], [.sc .bool], true, fun a => f53 n a.1 a.2.1⟩]
theorem p58_0 (n : Nat) (lab : Nat → SS → Option (RT.den F58.rs)) (x : PTs.den F58.ps) : F58.body (bodyOf Try.f58) tabR tyR true (cs58 n) lab x = o58_0 n x.1 x.2.1 := by kernel_rfl
theorem w58 (n : Nat) (x : PTs.den F58.ps) : F58.body (bodyOf Try.f58) tabR tyR true (cs58 n) (F58.labX (bodyOf Try.f58) tabR tyR true (cs58 n) (F58.labM (bodyOf Try.f58) tabR tyR true (cs58 n) 0) F58.D) x = o58_0 n x.1 x.2.1 := by
  show F58.body (bodyOf Try.f58) tabR tyR true (cs58 n) (F58.labX (bodyOf Try.f58) tabR tyR true (cs58 n) (F58.labM (bodyOf Try.f58) tabR tyR true (cs58 n) 0) 2) x = _
  rw [p58_0]
theorem call58 : Callable Try.prog 58 := callable_of Try.func58 (by kernel_rfl) (by kernel_rfl)
theorem ok58 (n : Nat) : Cal.Ok Try.prog ⟨58, F58.ps, F58.rs, F58.fr, fun a => f58 n a.1 a.2.1⟩ :=
  cal_of_fn F58 (code := bodyOf Try.f58) Try.func58 (by kernel_rfl) (by kernel_rfl) call58 htabR (cs := cs58 n) (fun c hc => by
      simp only [cs58, List.mem_cons, List.not_mem_nil, or_false] at hc
      rcases hc with rfl | rfl
      · exact ok38 n
      · exact ok53 n) (fun _ => mixed) (by kernel_rfl) (by kernel_rfl) (by decide) (fun x => ⟨0, w58 n x⟩)
-- tranship/transhiplaw15.wakes
def o61_0 (n : Nat) : Option Bool :=
  (f62 n ([] : List Ent) (1 : Int) (3 : Int) ([] : List Jd)).bind fun x1 =>
  (f59 n ([] : List Ent) (3 : Int) (1 : Int) [(Jd.mk x1.1.eq (Tm.mk x1.1.u.kind x1.1.u.i x1.1.u.j x1.1.u.n x1.1.u.kids) (Tm.mk x1.1.v.kind x1.1.v.i x1.1.v.j x1.1.v.n x1.1.v.kids) (Tm.mk x1.1.a.kind x1.1.a.i x1.1.a.j x1.1.a.n x1.1.a.kids) x1.1.i)]).bind fun x2 =>
  (f62 n ([] : List Ent) (1 : Int) (901 : Int) ([] : List Jd)).bind fun x3 =>
  ifB x1.2 (
    ifB (decide (x1.1.i = (5 : Int))) (
      ifB (decide (x1.1.u.kind = (1 : Int))) (
        ifB (decide (x1.1.u.i = (3 : Int))) (
          ifB (decide (x1.1.a.i = (4 : Int))) (
            ifB x2.2 (
              ifB (decide ((x2.1.length : Int) = (1 : Int))) (
                atI x2.1 (0 : Int) fun x4 =>
                ifB (decide (x4.i = (4 : Int))) (
                  some (!x3.2)) (
                  some false)) (
                some false)) (
              some false)) (
            some false)) (
          some false)) (
        some false)) (
      some false)) (
    some false)
def f61 (n : Nat) : Option Bool := o61_0 n
def an61 : An := .z
def F61 : Fn := { f := 61, a := an61, vars := [.tmp 0], ps := [], rs := [.sc .bool], own := false, fr := true, nt := 64, D := 2, loops := [] }
def cs61 (n : Nat) : List Cal := [⟨59, [.sl .ent, .sc .int, .sc .int, .sl .jd], [.sl .ent, .sc .bool], true, fun a => f59 n a.1 a.2.1 a.2.2.1 a.2.2.2.1⟩, ⟨62, [.sl .ent, .sc .int, .sc .int, .sl .jd], [.st .jd, .sc .bool], true, fun a => f62 n a.1 a.2.1 a.2.2.1 a.2.2.2.1⟩]
theorem p61_0 (n : Nat) (lab : Nat → SS → Option (RT.den F61.rs)) (x : PTs.den F61.ps) : F61.body (bodyOf Try.f61) tabR tyR true (cs61 n) lab x = o61_0 n := by kernel_rfl
theorem w61 (n : Nat) (x : PTs.den F61.ps) : F61.body (bodyOf Try.f61) tabR tyR true (cs61 n) (F61.labX (bodyOf Try.f61) tabR tyR true (cs61 n) (F61.labM (bodyOf Try.f61) tabR tyR true (cs61 n) 0) F61.D) x = o61_0 n := by
  show F61.body (bodyOf Try.f61) tabR tyR true (cs61 n) (F61.labX (bodyOf Try.f61) tabR tyR true (cs61 n) (F61.labM (bodyOf Try.f61) tabR tyR true (cs61 n) 0) 2) x = _
  rw [p61_0]
theorem call61 : Callable Try.prog 61 := callable_of Try.func61 (by kernel_rfl) (by kernel_rfl)
theorem ok61 (n : Nat) : Cal.Ok Try.prog ⟨61, F61.ps, F61.rs, F61.fr, fun _ => f61 n⟩ :=
  cal_of_fn F61 (code := bodyOf Try.f61) Try.func61 (by kernel_rfl) (by kernel_rfl) call61 htabR (cs := cs61 n) (fun c hc => by
      simp only [cs61, List.mem_cons, List.not_mem_nil, or_false] at hc
      rcases hc with rfl | rfl
      · exact ok59 n
      · exact ok62 n) (fun _ => mixed) (by kernel_rfl) (by kernel_rfl) (by decide) (fun x => ⟨0, w61 n x⟩)
-- tranship/transhiplaw15.RuleRight
def o12_0 (n : Nat) (k1 : Jd → Int → Option Bool) (a0 : List Ent) (a1 : Int) (a2 : Int) (a3 : List Jd) : Option Bool :=
  (f58 n a0 a3).bind fun x1 =>
  ifB x1 (
    some true) (
    (f62 n a0 a1 a2 a3).bind fun x2 =>
    ifB (!x2.2) (
      (f63 x2.1.u).bind fun x3 =>
      ifB x3 (
        (f63 x2.1.v).bind fun x4 =>
        ifB x4 (
          (f63 x2.1.a).bind fun x5 =>
          ifB x5 (
            ifB (!x2.1.eq) (
              ifB (decide (x2.1.i = (0 : Int))) (
                (f61 n).bind fun x6 =>
                some x6) (
                some false)) (
              some false)) (
            some false)) (
          some false)) (
        some false)) (
      (f64 a1).bind fun x7 =>
      ifB (!(x2.1.eq == x7)) (
        some false) (
        ifB (decide (x2.1.i < (0 : Int))) (
          some false) (
          ifB (decide ((1000 : Int) < x2.1.i)) (
            some false) (
            (f65 n x2.1.u).bind fun x8 =>
            ifB (!x8) (
              some false) (
              (f65 n x2.1.a).bind fun x9 =>
              ifB (!x9) (
                some false) (
                (f52 n x2.1.u).bind fun x10 =>
                ifB (decide ((a0.length : Int) < x10)) (
                  some false) (
                  (f52 n x2.1.a).bind fun x11 =>
                  ifB (decide ((a0.length : Int) < x11)) (
                    some false) (
                    k1 x2.1 (a0.length : Int))))))))))
def o12_1 (n : Nat) (t9 : Jd) (t11 : Int) : Option Bool :=
  ifB (!t9.eq) (
    (f63 t9.v).bind fun x12 =>
    ifB x12 (
      (f61 n).bind fun x13 =>
      some x13) (
      some false)) (
    (f65 n t9.v).bind fun x14 =>
    ifB x14 (
      (f52 n t9.v).bind fun x15 =>
      ifB (decide (x15 ≤ t11)) (
        (f61 n).bind fun x16 =>
        some x16) (
        some false)) (
      some false))
def c12_1 (n : Nat) (t9 : Jd) (t11 : Int) : Option Bool :=
  o12_1 n t9 t11
def f12 (n : Nat) (a0 : List Ent) (a1 : Int) (a2 : Int) (a3 : List Jd) : Option Bool := o12_0 n (c12_1 n) a0 a1 a2 a3
def an12 : An := (.n none [] 0 .z (.n none [] 0 .z (.n none [] 0 .z (.n none [] 0 .z (.n none [] 0 .z (.n (some 1) [(9, .ps 0 .jd true), (11, .one .c)] 1 .z .z))))))
def F12 : Fn := { f := 12, a := an12, vars := [.tmp 8], ps := [.sl .ent, .sc .int, .sc .int, .sl .jd], rs := [.sc .bool], own := false, fr := true, nt := 116, D := 3, loops := [] }
def cs12 (n : Nat) : List Cal := [⟨52, [.st .tm], [.sc .int], true, fun a => f52 n a.1⟩, ⟨58, [.sl .ent, .sl .jd], [.sc .bool], true, fun a => f58 n a.1 a.2.1⟩, ⟨61, [], [.sc .bool], true, fun a => f61 n⟩, ⟨62, [.sl .ent, .sc .int, .sc .int, .sl .jd], [.st .jd, .sc .bool], true, fun a => f62 n a.1 a.2.1 a.2.2.1 a.2.2.2.1⟩, ⟨63, [.st .tm], [.sc .bool], true, fun a => f63 a.1⟩, ⟨64, [.sc .int], [.sc .bool], true, fun a => f64 a.1⟩, ⟨65, [.st .tm], [.sc .bool], true, fun a => f65 n a.1⟩]
def st12_1 (t9 : Jd) (t11 : Int) : SS := ⟨[(9, .v (.one (.ptr 0 0))), (11, .v (.one (.c (.int t11) true)))], [(0, some (.bst .jd t9 true))], 1⟩
theorem p12_0 (n : Nat) (lab : Nat → SS → Option (RT.den F12.rs)) (x : PTs.den F12.ps) : F12.body (bodyOf Try.f12) tabR tyR true (cs12 n) lab x = o12_0 n (fun t9 t11 => lab 1 (st12_1 t9 t11)) x.1 x.2.1 x.2.2.1 x.2.2.2.1 := by kernel_rfl
theorem p12_1 (n : Nat) (lab : Nat → SS → Option (RT.den F12.rs)) (t9 : Jd) (t11 : Int) : F12.at (bodyOf Try.f12) tabR tyR true (cs12 n) lab 1 (st12_1 t9 t11) = o12_1 n t9 t11 := by kernel_rfl
theorem n12_1 (n : Nat) (rec : Nat → SS → Option (RT.den F12.rs)) (d : Nat) (t9 : Jd) (t11 : Int) : F12.labD (bodyOf Try.f12) tabR tyR true (cs12 n) rec (d + 1) 1 (st12_1 t9 t11) = c12_1 n t9 t11 := by
  show F12.labD (bodyOf Try.f12) tabR tyR true (cs12 n) rec (d + 1) 1 _ = _
  rw [Fn.labD_succ, p12_1]
  rfl
theorem w12 (n : Nat) (x : PTs.den F12.ps) : F12.body (bodyOf Try.f12) tabR tyR true (cs12 n) (F12.labX (bodyOf Try.f12) tabR tyR true (cs12 n) (F12.labM (bodyOf Try.f12) tabR tyR true (cs12 n) 0) F12.D) x = o12_0 n (c12_1 n) x.1 x.2.1 x.2.2.1 x.2.2.2.1 := by
  have e1 : ∀ t9 t11, F12.labX (bodyOf Try.f12) tabR tyR true (cs12 n) (F12.labM (bodyOf Try.f12) tabR tyR true (cs12 n) 0) 3 1 (st12_1 t9 t11) = c12_1 n t9 t11 := fun t9 t11 => (Fn.labX_step _ _ _ _ _ _ _ _ _ _ (by kernel_rfl)).trans (n12_1 n (F12.labM (bodyOf Try.f12) tabR tyR true (cs12 n) 0) 2 t9 t11)
  show F12.body (bodyOf Try.f12) tabR tyR true (cs12 n) (F12.labX (bodyOf Try.f12) tabR tyR true (cs12 n) (F12.labM (bodyOf Try.f12) tabR tyR true (cs12 n) 0) 3) x = _
  rw [p12_0]
  simp only [e1]
  try rfl
theorem call12 : Callable Try.prog 12 := callable_of Try.func12 (by kernel_rfl) (by kernel_rfl)
theorem ok12 (n : Nat) : Cal.Ok Try.prog ⟨12, F12.ps, F12.rs, F12.fr, fun a => f12 n a.1 a.2.1 a.2.2.1 a.2.2.2.1⟩ :=
  cal_of_fn F12 (code := bodyOf Try.f12) Try.func12 (by kernel_rfl) (by kernel_rfl) call12 htabR (cs := cs12 n) (fun c hc => by
      simp only [cs12, List.mem_cons, List.not_mem_nil, or_false] at hc
      rcases hc with rfl | rfl | rfl | rfl | rfl | rfl | rfl
      · exact ok52 n
      · exact ok58 n
      · exact ok61 n
      · exact ok62 n
      · exact ok63
      · exact ok64
      · exact ok65 n) (fun _ => mixed) (by kernel_rfl) (by kernel_rfl) (by decide) (fun x => ⟨0, w12 n x⟩)
end Go.Proofs.Ytcaahmielncmpaa
