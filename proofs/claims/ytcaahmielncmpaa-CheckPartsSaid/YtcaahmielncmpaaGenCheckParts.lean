/-
  What the statement computes, as a plain function.
-/
import Derived.Test.YtcaahmielncmpaaGenK
import Derived.Test.YtcaahmielncmpaaGenE
import Derived.Test.YtcaahmielncmpaaGenD
import Derived.Test.YtcaahmielncmpaaGenC
import Derived.Test.YtcaahmielncmpaaGenR
import Derived.Test.YtcaahmielncmpaaGenH
set_option linter.unusedSimpArgs false
set_option linter.unusedVariables false
namespace Go.Proofs.Ytcaahmielncmpaa
open Go Go.RowKit
set_option maxRecDepth 100000
-- tranship/transhiplaw16.heavy
def o66_0 (n : Nat) (a0 : List Ent) (a1 : Dv) : Option Bool :=
  (f38 n a0 (60 : Int)).bind fun x1 =>
  ifB x1 (
    some true) (
    (f72 n a1 (40 : Int)).bind fun x2 =>
    some x2)
def f66 (n : Nat) (a0 : List Ent) (a1 : Dv) : Option Bool := o66_0 n a0 a1
def an66 : An := .z
def F66 : Fn := { f := 66, a := an66, vars := [.tmp 4], ps := [.sl .ent, .st .dv], rs := [.sc .bool], own := false, fr := true, nt := 11, D := 2, loops := [] }
def cs66 (n : Nat) : List Cal := [⟨38, [.sl .ent, .sc .int], [.sc .bool], true, fun a => f38 n a.1 a.2.1⟩, ⟨72, [.st .dv, .sc .int], [.sc .bool], true, fun a => f72 n a.1 a.2.1⟩]
theorem p66_0 (n : Nat) (lab : Nat → SS → Option (RT.den F66.rs)) (x : PTs.den F66.ps) : F66.body (bodyOf Try.f66) tabR tyR true (cs66 n) lab x = o66_0 n x.1 x.2.1 := by kernel_rfl
theorem w66 (n : Nat) (x : PTs.den F66.ps) : F66.body (bodyOf Try.f66) tabR tyR true (cs66 n) (F66.labX (bodyOf Try.f66) tabR tyR true (cs66 n) (F66.labM (bodyOf Try.f66) tabR tyR true (cs66 n) 0) F66.D) x = o66_0 n x.1 x.2.1 := by
  show F66.body (bodyOf Try.f66) tabR tyR true (cs66 n) (F66.labX (bodyOf Try.f66) tabR tyR true (cs66 n) (F66.labM (bodyOf Try.f66) tabR tyR true (cs66 n) 0) 2) x = _
  rw [p66_0]
theorem call66 : Callable Try.prog 66 := callable_of Try.func66 (by kernel_rfl) (by kernel_rfl)
theorem ok66 (n : Nat) : Cal.Ok Try.prog ⟨66, F66.ps, F66.rs, F66.fr, fun a => f66 n a.1 a.2.1⟩ :=
  cal_of_fn F66 (code := bodyOf Try.f66) Try.func66 (by kernel_rfl) (by kernel_rfl) call66 htabR (cs := cs66 n) (fun c hc => by
      simp only [cs66, List.mem_cons, List.not_mem_nil, or_false] at hc
      rcases hc with rfl | rfl
      · exact ok38 n
      · exact ok72 n) (fun _ => mixed) (by kernel_rfl) (by kernel_rfl) (by decide) (fun x => ⟨0, w66 n x⟩)
-- tranship/transhiplaw16.wakes
def o69_0 (n : Nat) : Option Bool :=
  (f68 n ([] : List Ent) (Dv.mk (1 : Int) (0 : Int) ([] : List Dv)) 4611686018427387904).bind fun x1 =>
  (f68 n ([] : List Ent) (Dv.mk (1 : Int) (0 : Int) ([] : List Dv)) 4607182418800017408).bind fun x2 =>
  ifB (decide (x1.2.1 = (0 : Int))) (
    ifB (decide (x1.1.i = (2 : Int))) (
      ifB (decide (x1.1.a.i = (1 : Int))) (
        ifB (decide ((x1.2.2.length : Int) = (0 : Int))) (
          some (decide (x2.2.1 = (4 : Int)))) (
          some false)) (
        some false)) (
      some false)) (
    some false)
def f69 (n : Nat) : Option Bool := o69_0 n
def an69 : An := .z
def F69 : Fn := { f := 69, a := an69, vars := [.tmp 0], ps := [], rs := [.sc .bool], own := false, fr := true, nt := 41, D := 2, loops := [] }
def cs69 (n : Nat) : List Cal := [⟨68, [.sl .ent, .st .dv, .sc .flt], [.st .jd, .sc .int, .sl .int], true, fun a => f68 n a.1 a.2.1 a.2.2.1⟩]
theorem p69_0 (n : Nat) (lab : Nat → SS → Option (RT.den F69.rs)) (x : PTs.den F69.ps) : F69.body (bodyOf Try.f69) tabR tyR true (cs69 n) lab x = o69_0 n := by kernel_rfl
theorem w69 (n : Nat) (x : PTs.den F69.ps) : F69.body (bodyOf Try.f69) tabR tyR true (cs69 n) (F69.labX (bodyOf Try.f69) tabR tyR true (cs69 n) (F69.labM (bodyOf Try.f69) tabR tyR true (cs69 n) 0) F69.D) x = o69_0 n := by
  show F69.body (bodyOf Try.f69) tabR tyR true (cs69 n) (F69.labX (bodyOf Try.f69) tabR tyR true (cs69 n) (F69.labM (bodyOf Try.f69) tabR tyR true (cs69 n) 0) 2) x = _
  rw [p69_0]
theorem call69 : Callable Try.prog 69 := callable_of Try.func69 (by kernel_rfl) (by kernel_rfl)
theorem ok69 (n : Nat) : Cal.Ok Try.prog ⟨69, F69.ps, F69.rs, F69.fr, fun _ => f69 n⟩ :=
  cal_of_fn F69 (code := bodyOf Try.f69) Try.func69 (by kernel_rfl) (by kernel_rfl) call69 htabR (cs := cs69 n) (fun c hc => by
      simp only [cs69, List.mem_cons, List.not_mem_nil, or_false] at hc
      rcases hc with rfl
      · exact ok68 n) (fun _ => mixed) (by kernel_rfl) (by kernel_rfl) (by decide) (fun x => ⟨0, w69 n x⟩)
-- tranship/transhiplaw16.CheckParts
def o16_0 (n : Nat) (k1 : (List Ent) → Dv → Jd → (List Jd) → Int → Option Bool) (a0 : List Ent) (a1 : Dv) : Option Bool :=
  (f66 n a0 a1).bind fun x1 =>
  ifB x1 (
    some true) (
    (f68 n a0 a1 4652007308841189376).bind fun x2 =>
    ifB (!decide (x2.2.1 = (0 : Int))) (
      (f69 n).bind fun x3 =>
      some x3) (
      k1 a0 a1 x2.1 ([] : List Jd) (0 : Int)))
def o16_1 (n : Nat) (k1 : (List Ent) → Dv → Jd → (List Jd) → Int → Option Bool) (t0 : List Ent) (t3 : Dv) (t5 : Jd) (t8 : List Jd) (t9 : Int) : Option Bool :=
  ifB (decide (t9 < (t3.kids.length : Int))) (
    (f59 n t0 t3.rule t9 t8).bind fun x4 =>
    atI t3.kids t9 fun x5 =>
    (f68 n x4.1 x5 4652007308841189376).bind fun x6 =>
    ifB (!x4.2) (
      some false) (
      ifB (!decide (x6.2.1 = (0 : Int))) (
        some false) (
        ckB (decide ((t8.length + [(Jd.mk x6.1.eq (Tm.mk x6.1.u.kind x6.1.u.i x6.1.u.j x6.1.u.n x6.1.u.kids) (Tm.mk x6.1.v.kind x6.1.v.i x6.1.v.j x6.1.v.n x6.1.v.kids) (Tm.mk x6.1.a.kind x6.1.a.i x6.1.a.j x6.1.a.n x6.1.a.kids) x6.1.i)].length) * 184 ≤ 140737488355328) && decide (t8.length + [(Jd.mk x6.1.eq (Tm.mk x6.1.u.kind x6.1.u.i x6.1.u.j x6.1.u.n x6.1.u.kids) (Tm.mk x6.1.v.kind x6.1.v.i x6.1.v.j x6.1.v.n x6.1.v.kids) (Tm.mk x6.1.a.kind x6.1.a.i x6.1.a.j x6.1.a.n x6.1.a.kids) x6.1.i)].length ≤ 9223372036854775807)) <|
        ckI (t9 + (1 : Int)) <|
        k1 t0 t3 t5 (t8 ++ [(Jd.mk x6.1.eq (Tm.mk x6.1.u.kind x6.1.u.i x6.1.u.j x6.1.u.n x6.1.u.kids) (Tm.mk x6.1.v.kind x6.1.v.i x6.1.v.j x6.1.v.n x6.1.v.kids) (Tm.mk x6.1.a.kind x6.1.a.i x6.1.a.j x6.1.a.n x6.1.a.kids) x6.1.i)]) (t9 + (1 : Int))))) (
    (f62 n t0 t3.rule t3.i t8).bind fun x7 =>
    ifB x7.2 (
      (f56 n t5 x7.1).bind fun x8 =>
      ifB x8 (
        (f69 n).bind fun x9 =>
        some x9) (
        some false)) (
      some false))
def l16_1 (n : Nat) : Nat → (List Ent) → Dv → Jd → (List Jd) → Int → Option Bool
  | 0, _, _, _, _, _ => none
  | m + 1, t0, t3, t5, t8, t9 => o16_1 n (l16_1 n m) t0 t3 t5 t8 t9
def f16 (n : Nat) (a0 : List Ent) (a1 : Dv) : Option Bool := o16_0 n (l16_1 n n) a0 a1
def an16 : An := (.n none [] 0 .z (.n none [] 0 .z (.n none [] 0 .z (.n none [] 0 .z (.n none [] 0 .z (.n none [] 0 (.n none [] 0 .z (.n none [] 0 (.n (some 1) [(0, .one (.d .ent false)), (3, .ps 0 .dv false), (5, .ps 1 .jd true), (8, .one (.r 2 49 .jd true)), (9, .one .c)] 3 .z .z) .z)) .z))))))
def F16 : Fn := { f := 16, a := an16, vars := [.tmp 4], ps := [.sl .ent, .st .dv], rs := [.sc .bool], own := false, fr := true, nt := 86, D := 3, loops := [1] }
def cs16 (n : Nat) : List Cal := [⟨56, [.st .jd, .st .jd], [.sc .bool], true, fun a => f56 n a.1 a.2.1⟩, ⟨59, [.sl .ent, .sc .int, .sc .int, .sl .jd], [.sl .ent, .sc .bool], true, fun a => f59 n a.1 a.2.1 a.2.2.1 a.2.2.2.1⟩, ⟨62, [.sl .ent, .sc .int, .sc .int, .sl .jd], [.st .jd, .sc .bool], true, fun a => f62 n a.1 a.2.1 a.2.2.1 a.2.2.2.1⟩, ⟨66, [.sl .ent, .st .dv], [.sc .bool], true, fun a => f66 n a.1 a.2.1⟩, ⟨68, [.sl .ent, .st .dv, .sc .flt], [.st .jd, .sc .int, .sl .int], true, fun a => f68 n a.1 a.2.1 a.2.2.1⟩, ⟨69, [], [.sc .bool], true, fun a => f69 n⟩]
def st16_1 (t0 : List Ent) (t3 : Dv) (t5 : Jd) (t8 : List Jd) (t9 : Int) : SS := ⟨[(0, .v (.one (.c (.sl .ent t0) false))), (3, .v (.one (.ptr 0 0))), (5, .v (.one (.ptr 1 0))), (8, .v (.one (.arr 2))), (9, .v (.one (.c (.int t9) true)))], [(0, some (.bst .dv t3 false)), (1, some (.bst .jd t5 true)), (2, some (.row 49 .jd t8 true))], 3⟩
theorem p16_0 (n : Nat) (lab : Nat → SS → Option (RT.den F16.rs)) (x : PTs.den F16.ps) : F16.body (bodyOf Try.f16) tabR tyR true (cs16 n) lab x = o16_0 n (fun t0 t3 t5 t8 t9 => lab 1 (st16_1 t0 t3 t5 t8 t9)) x.1 x.2.1 := by kernel_rfl
theorem p16_1 (n : Nat) (lab : Nat → SS → Option (RT.den F16.rs)) (t0 : List Ent) (t3 : Dv) (t5 : Jd) (t8 : List Jd) (t9 : Int) : F16.at (bodyOf Try.f16) tabR tyR true (cs16 n) lab 1 (st16_1 t0 t3 t5 t8 t9) = o16_1 n (fun t0 t3 t5 t8 t9 => lab 1 (st16_1 t0 t3 t5 t8 t9)) t0 t3 t5 t8 t9 := by kernel_rfl
theorem m16_1 (n : Nat) : ∀ m : Nat, (∀ t0 t3 t5 t8 t9, F16.labM (bodyOf Try.f16) tabR tyR true (cs16 n) m 1 (st16_1 t0 t3 t5 t8 t9) = l16_1 n m t0 t3 t5 t8 t9) := by
  intro m
  induction m with
  | zero => exact fun _ _ _ _ _ => rfl
  | succ m ih =>
    intro t0 t3 t5 t8 t9
    have e1 : ∀ t0 t3 t5 t8 t9, F16.labX (bodyOf Try.f16) tabR tyR true (cs16 n) (F16.labM (bodyOf Try.f16) tabR tyR true (cs16 n) m) 2 1 (st16_1 t0 t3 t5 t8 t9) = (l16_1 n m) t0 t3 t5 t8 t9 := fun t0 t3 t5 t8 t9 => (Fn.labX_loop _ _ _ _ _ _ _ _ _ _ (by kernel_rfl)).trans (ih t0 t3 t5 t8 t9)
    rw [Fn.labM_succ]
    show F16.labD (bodyOf Try.f16) tabR tyR true (cs16 n) (F16.labM (bodyOf Try.f16) tabR tyR true (cs16 n) m) (2 + 1) 1 _ = _
    rw [Fn.labD_succ, p16_1]
    simp only [e1]
    rfl
theorem w16 (n : Nat) (x : PTs.den F16.ps) : F16.body (bodyOf Try.f16) tabR tyR true (cs16 n) (F16.labX (bodyOf Try.f16) tabR tyR true (cs16 n) (F16.labM (bodyOf Try.f16) tabR tyR true (cs16 n) n) F16.D) x = o16_0 n (l16_1 n n) x.1 x.2.1 := by
  have e1 : ∀ t0 t3 t5 t8 t9, F16.labX (bodyOf Try.f16) tabR tyR true (cs16 n) (F16.labM (bodyOf Try.f16) tabR tyR true (cs16 n) n) 3 1 (st16_1 t0 t3 t5 t8 t9) = (l16_1 n n) t0 t3 t5 t8 t9 := fun t0 t3 t5 t8 t9 => (Fn.labX_loop _ _ _ _ _ _ _ _ _ _ (by kernel_rfl)).trans ((m16_1 n n) t0 t3 t5 t8 t9)
  show F16.body (bodyOf Try.f16) tabR tyR true (cs16 n) (F16.labX (bodyOf Try.f16) tabR tyR true (cs16 n) (F16.labM (bodyOf Try.f16) tabR tyR true (cs16 n) n) 3) x = _
  rw [p16_0]
  simp only [e1]
  try rfl
theorem call16 : Callable Try.prog 16 := callable_of Try.func16 (by kernel_rfl) (by kernel_rfl)
theorem ok16 (n : Nat) : Cal.Ok Try.prog ⟨16, F16.ps, F16.rs, F16.fr, fun a => f16 n a.1 a.2.1⟩ :=
  cal_of_fn F16 (code := bodyOf Try.f16) Try.func16 (by kernel_rfl) (by kernel_rfl) call16 htabR (cs := cs16 n) (fun c hc => by
      simp only [cs16, List.mem_cons, List.not_mem_nil, or_false] at hc
      rcases hc with rfl | rfl | rfl | rfl | rfl | rfl
      · exact ok56 n
      · exact ok59 n
      · exact ok62 n
      · exact ok66 n
      · exact ok68 n
      · exact ok69 n) (fun _ => mixed) (by kernel_rfl) (by kernel_rfl) (by decide) (fun x => ⟨n, w16 n x⟩)
end Go.Proofs.Ytcaahmielncmpaa
