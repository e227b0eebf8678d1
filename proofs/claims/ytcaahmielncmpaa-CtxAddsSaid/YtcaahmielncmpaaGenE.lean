/-
  What lifting, stripping, putting and erasing compute, as plain functions.
-/
import Derived.Test.YtcaahmielncmpaaGenK
set_option linter.unusedSimpArgs false
set_option linter.unusedVariables false
namespace Go.Proofs.Ytcaahmielncmpaa
open Go Go.RowKit
set_option maxRecDepth 100000
-- tranship/transhipref04.erase
-- tranship/transhipref04.Erase
-- tranship/erase.erase
def o80_0 (s80 : Tm → Option Tm) (n : Nat) (k1 : Tm → Int → Int → Int → Int → Option Tm) (a0 : Tm) : Option Tm :=
  k1 a0 (0 : Int) (0 : Int) (0 : Int) (0 : Int)
def o80_1 (s80 : Tm → Option Tm) (n : Nat) (k1 : Tm → Int → Int → Int → Int → Option Tm) (k2 : Tm → Int → Int → Int → Int → (List Tm) → (List Tm) → Int → Int → Option Tm) (t1 : Tm) (t2_0 : Int) (t2_1 : Int) (t2_2 : Int) (t2_3 : Int) : Option Tm :=
  ifB (decide (t1.kind = (12 : Int))) (
    atI t1.kids (3 : Int) fun x1 =>
    k1 x1 t2_0 t2_1 t2_2 t2_3) (
    ifB (decide ((t1.kids.length : Int) = (0 : Int))) (
      some (Tm.mk t1.kind t1.i t1.j t1.n ([] : List Tm))) (
      ckB (decide (0 ≤ (t1.kids.length : Int)) && (decide ((t1.kids.length : Int) ≤ (t1.kids.length : Int)) && decide ((56 : Nat) * (t1.kids.length : Int) ≤ 281474976710656))) <|
      k2 t1 t2_0 t2_1 t2_2 t2_3 (List.replicate (t1.kids.length : Int).toNat (Tm.mk (0 : Int) (0 : Int) (0 : Int) (0 : Int) ([] : List Tm))) t1.kids (t1.kids.length : Int) (0 : Int)))
def o80_2 (s80 : Tm → Option Tm) (n : Nat) (k2 : Tm → Int → Int → Int → Int → (List Tm) → (List Tm) → Int → Int → Option Tm) (t1 : Tm) (t2_0 : Int) (t2_1 : Int) (t2_2 : Int) (t2_3 : Int) (t3 : List Tm) (t24 : List Tm) (t25 : Int) (t26 : Int) : Option Tm :=
  ifB (decide (t26 < t25)) (
    atI t24 t26 fun x2 =>
    (s80 x2).bind fun x3 =>
    ckB (decide (0 ≤ t26) && decide (t26 < t3.length)) <|
    ckB (decide (t26.toNat < t3.length)) <|
    ckI (t26 + (1 : Int)) <|
    k2 t1 t2_0 t2_1 t2_2 t2_3 (t3.set t26.toNat (Tm.mk x3.kind x3.i x3.j x3.n x3.kids)) t24 t25 (t26 + (1 : Int))) (
    some (Tm.mk t1.kind t1.i t1.j t1.n t3))
def l80_2 (s80 : Tm → Option Tm) (n : Nat) : Nat → Tm → Int → Int → Int → Int → (List Tm) → (List Tm) → Int → Int → Option Tm
  | 0, _, _, _, _, _, _, _, _, _ => none
  | m + 1, t1, t2_0, t2_1, t2_2, t2_3, t3, t24, t25, t26 => o80_2 s80 n (l80_2 s80 n m) t1 t2_0 t2_1 t2_2 t2_3 t3 t24 t25 t26
def l80_1 (s80 : Tm → Option Tm) (n : Nat) : Nat → Tm → Int → Int → Int → Int → Option Tm
  | 0, _, _, _, _, _ => none
  | m + 1, t1, t2_0, t2_1, t2_2, t2_3 => o80_1 s80 n (l80_1 s80 n m) (l80_2 s80 n m) t1 t2_0 t2_1 t2_2 t2_3
def f80 : Nat → Tm → Option Tm
  | 0, _ => none
  | n + 1, a0 => o80_0 (f80 n) n (l80_1 (f80 n) n n) a0
def an80 : An := (.n none [] 0 .z (.n none [] 0 (.n none [] 0 (.n (some 1) [(1, .ps 0 .tm false), (2, .p 1 [.c, .c, .c, .c, .k])] 2 .z .z) .z) (.n none [] 0 .z (.n none [] 0 .z (.n none [] 0 (.n none [] 0 .z (.n none [] 0 (.n (some 2) [(1, .ps 0 .tm false), (2, .p 1 [.c, .c, .c, .c, .k]), (3, .one (.r 2 24 .tm true)), (24, .one (.d .tm false)), (25, .one .c), (26, .one .c)] 3 .z .z) .z)) .z)))))
def F80 : Fn := { f := 80, a := an80, vars := [.cell 2 24], ps := [.st .tm], rs := [.st .tm], own := false, fr := true, nt := 40, D := 4, loops := [1, 2] }
def cs80 (s80 : Tm → Option Tm) (n : Nat) : List Cal := [⟨80, [.st .tm], [.st .tm], true, fun a => s80 a.1⟩]
def st80_1 (t1 : Tm) (t2_0 : Int) (t2_1 : Int) (t2_2 : Int) (t2_3 : Int) : SS := ⟨[(1, .v (.one (.ptr 0 0))), (2, .v (.one (.ptr 1 0)))], [(0, some (.bst .tm t1 false)), (1, some (.box [.c (.int t2_0) true, .c (.int t2_1) true, .c (.int t2_2) true, .c (.int t2_3) true, .nils]))], 2⟩
def st80_2 (t1 : Tm) (t2_0 : Int) (t2_1 : Int) (t2_2 : Int) (t2_3 : Int) (t3 : List Tm) (t24 : List Tm) (t25 : Int) (t26 : Int) : SS := ⟨[(1, .v (.one (.ptr 0 0))), (2, .v (.one (.ptr 1 0))), (3, .v (.one (.arr 2))), (24, .v (.one (.c (.sl .tm t24) false))), (25, .v (.one (.c (.int t25) true))), (26, .v (.one (.c (.int t26) true)))], [(0, some (.bst .tm t1 false)), (1, some (.box [.c (.int t2_0) true, .c (.int t2_1) true, .c (.int t2_2) true, .c (.int t2_3) true, .nils])), (2, some (.row 24 .tm t3 true))], 3⟩
theorem p80_0 (s80 : Tm → Option Tm) (n : Nat) (lab : Nat → SS → Option (RT.den F80.rs)) (x : PTs.den F80.ps) : F80.body (bodyOf Try.f80) tabR tyR true (cs80 s80 n) lab x = o80_0 s80 n (fun t1 t2_0 t2_1 t2_2 t2_3 => lab 1 (st80_1 t1 t2_0 t2_1 t2_2 t2_3)) x.1 := by kernel_rfl
theorem p80_1 (s80 : Tm → Option Tm) (n : Nat) (lab : Nat → SS → Option (RT.den F80.rs)) (t1 : Tm) (t2_0 : Int) (t2_1 : Int) (t2_2 : Int) (t2_3 : Int) : F80.at (bodyOf Try.f80) tabR tyR true (cs80 s80 n) lab 1 (st80_1 t1 t2_0 t2_1 t2_2 t2_3) = o80_1 s80 n (fun t1 t2_0 t2_1 t2_2 t2_3 => lab 1 (st80_1 t1 t2_0 t2_1 t2_2 t2_3)) (fun t1 t2_0 t2_1 t2_2 t2_3 t3 t24 t25 t26 => lab 2 (st80_2 t1 t2_0 t2_1 t2_2 t2_3 t3 t24 t25 t26)) t1 t2_0 t2_1 t2_2 t2_3 := by kernel_rfl
theorem p80_2 (s80 : Tm → Option Tm) (n : Nat) (lab : Nat → SS → Option (RT.den F80.rs)) (t1 : Tm) (t2_0 : Int) (t2_1 : Int) (t2_2 : Int) (t2_3 : Int) (t3 : List Tm) (t24 : List Tm) (t25 : Int) (t26 : Int) : F80.at (bodyOf Try.f80) tabR tyR true (cs80 s80 n) lab 2 (st80_2 t1 t2_0 t2_1 t2_2 t2_3 t3 t24 t25 t26) = o80_2 s80 n (fun t1 t2_0 t2_1 t2_2 t2_3 t3 t24 t25 t26 => lab 2 (st80_2 t1 t2_0 t2_1 t2_2 t2_3 t3 t24 t25 t26)) t1 t2_0 t2_1 t2_2 t2_3 t3 t24 t25 t26 := by kernel_rfl
theorem m80_2 (s80 : Tm → Option Tm) (n : Nat) : ∀ m : Nat, (∀ t1 t2_0 t2_1 t2_2 t2_3 t3 t24 t25 t26, F80.labM (bodyOf Try.f80) tabR tyR true (cs80 s80 n) m 2 (st80_2 t1 t2_0 t2_1 t2_2 t2_3 t3 t24 t25 t26) = l80_2 s80 n m t1 t2_0 t2_1 t2_2 t2_3 t3 t24 t25 t26) := by
  intro m
  induction m with
  | zero => exact fun _ _ _ _ _ _ _ _ _ => rfl
  | succ m ih =>
    intro t1 t2_0 t2_1 t2_2 t2_3 t3 t24 t25 t26
    have e2 : ∀ t1 t2_0 t2_1 t2_2 t2_3 t3 t24 t25 t26, F80.labX (bodyOf Try.f80) tabR tyR true (cs80 s80 n) (F80.labM (bodyOf Try.f80) tabR tyR true (cs80 s80 n) m) 3 2 (st80_2 t1 t2_0 t2_1 t2_2 t2_3 t3 t24 t25 t26) = (l80_2 s80 n m) t1 t2_0 t2_1 t2_2 t2_3 t3 t24 t25 t26 := fun t1 t2_0 t2_1 t2_2 t2_3 t3 t24 t25 t26 => (Fn.labX_loop _ _ _ _ _ _ _ _ _ _ (by kernel_rfl)).trans (ih t1 t2_0 t2_1 t2_2 t2_3 t3 t24 t25 t26)
    rw [Fn.labM_succ]
    show F80.labD (bodyOf Try.f80) tabR tyR true (cs80 s80 n) (F80.labM (bodyOf Try.f80) tabR tyR true (cs80 s80 n) m) (3 + 1) 2 _ = _
    rw [Fn.labD_succ, p80_2]
    simp only [e2]
    rfl
theorem m80_1 (s80 : Tm → Option Tm) (n : Nat) : ∀ m : Nat, (∀ t1 t2_0 t2_1 t2_2 t2_3, F80.labM (bodyOf Try.f80) tabR tyR true (cs80 s80 n) m 1 (st80_1 t1 t2_0 t2_1 t2_2 t2_3) = l80_1 s80 n m t1 t2_0 t2_1 t2_2 t2_3) := by
  intro m
  induction m with
  | zero => exact fun _ _ _ _ _ => rfl
  | succ m ih =>
    intro t1 t2_0 t2_1 t2_2 t2_3
    have e1 : ∀ t1 t2_0 t2_1 t2_2 t2_3, F80.labX (bodyOf Try.f80) tabR tyR true (cs80 s80 n) (F80.labM (bodyOf Try.f80) tabR tyR true (cs80 s80 n) m) 3 1 (st80_1 t1 t2_0 t2_1 t2_2 t2_3) = (l80_1 s80 n m) t1 t2_0 t2_1 t2_2 t2_3 := fun t1 t2_0 t2_1 t2_2 t2_3 => (Fn.labX_loop _ _ _ _ _ _ _ _ _ _ (by kernel_rfl)).trans (ih t1 t2_0 t2_1 t2_2 t2_3)
    have e2 : ∀ t1 t2_0 t2_1 t2_2 t2_3 t3 t24 t25 t26, F80.labX (bodyOf Try.f80) tabR tyR true (cs80 s80 n) (F80.labM (bodyOf Try.f80) tabR tyR true (cs80 s80 n) m) 3 2 (st80_2 t1 t2_0 t2_1 t2_2 t2_3 t3 t24 t25 t26) = (l80_2 s80 n m) t1 t2_0 t2_1 t2_2 t2_3 t3 t24 t25 t26 := fun t1 t2_0 t2_1 t2_2 t2_3 t3 t24 t25 t26 => (Fn.labX_loop _ _ _ _ _ _ _ _ _ _ (by kernel_rfl)).trans ((m80_2 s80 n m) t1 t2_0 t2_1 t2_2 t2_3 t3 t24 t25 t26)
    rw [Fn.labM_succ]
    show F80.labD (bodyOf Try.f80) tabR tyR true (cs80 s80 n) (F80.labM (bodyOf Try.f80) tabR tyR true (cs80 s80 n) m) (3 + 1) 1 _ = _
    rw [Fn.labD_succ, p80_1]
    simp only [e1, e2]
    rfl
theorem w80 (s80 : Tm → Option Tm) (n : Nat) (x : PTs.den F80.ps) : F80.body (bodyOf Try.f80) tabR tyR true (cs80 s80 n) (F80.labX (bodyOf Try.f80) tabR tyR true (cs80 s80 n) (F80.labM (bodyOf Try.f80) tabR tyR true (cs80 s80 n) n) F80.D) x = o80_0 s80 n (l80_1 s80 n n) x.1 := by
  have e1 : ∀ t1 t2_0 t2_1 t2_2 t2_3, F80.labX (bodyOf Try.f80) tabR tyR true (cs80 s80 n) (F80.labM (bodyOf Try.f80) tabR tyR true (cs80 s80 n) n) 4 1 (st80_1 t1 t2_0 t2_1 t2_2 t2_3) = (l80_1 s80 n n) t1 t2_0 t2_1 t2_2 t2_3 := fun t1 t2_0 t2_1 t2_2 t2_3 => (Fn.labX_loop _ _ _ _ _ _ _ _ _ _ (by kernel_rfl)).trans ((m80_1 s80 n n) t1 t2_0 t2_1 t2_2 t2_3)
  show F80.body (bodyOf Try.f80) tabR tyR true (cs80 s80 n) (F80.labX (bodyOf Try.f80) tabR tyR true (cs80 s80 n) (F80.labM (bodyOf Try.f80) tabR tyR true (cs80 s80 n) n) 4) x = _
  rw [p80_0]
  simp only [e1]
  try rfl
theorem call80 : Callable Try.prog 80 := callable_of Try.func80 (by kernel_rfl) (by kernel_rfl)
theorem okr80 : ∀ n : Nat, Cal.Ok Try.prog ⟨80, F80.ps, F80.rs, F80.fr, fun a => f80 n a.1⟩
  | 0 => ⟨by kernel_rfl, fun a r h => by cases h⟩
  | n + 1 => cal_of_fn F80 (code := bodyOf Try.f80) Try.func80 (by kernel_rfl) (by kernel_rfl) call80 htabR (cs := cs80 (f80 n) n) (fun c hc => by
      simp only [cs80, List.mem_cons, List.not_mem_nil, or_false] at hc
      rcases hc with rfl
      · exact (okr80 n)) (fun _ => mixed) (by kernel_rfl) (by kernel_rfl) (by decide) (fun x => ⟨n, w80 (f80 n) n x⟩)
theorem ok80 (n : Nat) : Cal.Ok Try.prog ⟨80, F80.ps, F80.rs, F80.fr, fun a => f80 n a.1⟩ := (okr80 n)
-- tranship/erase.Erase
def o22_0 (n : Nat) (a0 : Tm) : Option Tm :=
  (f79 n a0).bind fun x1 =>
  ifB (!x1) (
    some (Tm.mk (0 : Int) (0 : Int) (0 : Int) (0 : Int) ([] : List Tm))) (
    (f80 n a0).bind fun x2 =>
    some x2)
def f22 (n : Nat) (a0 : Tm) : Option Tm := o22_0 n a0
def an22 : An := .z
def F22 : Fn := { f := 22, a := an22, vars := [.cell 2 24], ps := [.st .tm], rs := [.st .tm], own := false, fr := true, nt := 9, D := 2, loops := [] }
def cs22 (n : Nat) : List Cal := [⟨79, [.st .tm], [.sc .bool], true, fun a => f79 n a.1⟩, ⟨80, [.st .tm], [.st .tm], true, fun a => f80 n a.1⟩]
theorem p22_0 (n : Nat) (lab : Nat → SS → Option (RT.den F22.rs)) (x : PTs.den F22.ps) : F22.body (bodyOf Try.f22) tabR tyR true (cs22 n) lab x = o22_0 n x.1 := by kernel_rfl
theorem w22 (n : Nat) (x : PTs.den F22.ps) : F22.body (bodyOf Try.f22) tabR tyR true (cs22 n) (F22.labX (bodyOf Try.f22) tabR tyR true (cs22 n) (F22.labM (bodyOf Try.f22) tabR tyR true (cs22 n) 0) F22.D) x = o22_0 n x.1 := by
  show F22.body (bodyOf Try.f22) tabR tyR true (cs22 n) (F22.labX (bodyOf Try.f22) tabR tyR true (cs22 n) (F22.labM (bodyOf Try.f22) tabR tyR true (cs22 n) 0) 2) x = _
  rw [p22_0]
theorem call22 : Callable Try.prog 22 := callable_of Try.func22 (by kernel_rfl) (by kernel_rfl)
theorem ok22 (n : Nat) : Cal.Ok Try.prog ⟨22, F22.ps, F22.rs, F22.fr, fun a => f22 n a.1⟩ :=
  cal_of_fn F22 (code := bodyOf Try.f22) Try.func22 (by kernel_rfl) (by kernel_rfl) call22 htabR (cs := cs22 n) (fun c hc => by
      simp only [cs22, List.mem_cons, List.not_mem_nil, or_false] at hc
      rcases hc with rfl | rfl
      · exact ok79 n
      · exact ok80 n) (fun _ => mixed) (by kernel_rfl) (by kernel_rfl) (by decide) (fun x => ⟨0, w22 n x⟩)
-- tranship/erase.count
-- tranship/erase.Count
-- tranship/erase.Related
-- tranship/transhipref04.strip
-- tranship/transhipref04.Strip
-- tranship/strip.strip
def o88_0 (s88 : Tm → Option Tm) (n : Nat) (k1 : Tm → Int → Int → Int → Int → Int → Int → Option Tm) (a0 : Tm) : Option Tm :=
  ifB (decide (a0.kind = (3 : Int))) (
    k1 a0 (0 : Int) (0 : Int) (0 : Int) (0 : Int) (13 : Int) (0 : Int)) (
    ifB (decide (a0.kind = (4 : Int))) (
      atI a0.kids (0 : Int) fun x1 =>
      (s88 x1).bind fun x2 =>
      atI a0.kids (2 : Int) fun x3 =>
      (s88 x3).bind fun x4 =>
      (f127 (14 : Int) (0 : Int) (0 : Int) (0 : Int) [(Tm.mk x2.kind x2.i x2.j x2.n x2.kids), (Tm.mk x4.kind x4.i x4.j x4.n x4.kids)]).bind fun x5 =>
      some x5) (
      ifB (decide (a0.kind = (5 : Int))) (
        k1 a0 (0 : Int) (0 : Int) (0 : Int) (0 : Int) (15 : Int) (2 : Int)) (
        ifB (decide (a0.kind = (6 : Int))) (
          k1 a0 (0 : Int) (0 : Int) (0 : Int) (0 : Int) (16 : Int) (0 : Int)) (
          ifB (decide (a0.kind = (7 : Int))) (
            k1 a0 (0 : Int) (0 : Int) (0 : Int) (0 : Int) (17 : Int) (0 : Int)) (
            ifB (decide (a0.kind = (8 : Int))) (
              k1 a0 (0 : Int) (0 : Int) (0 : Int) (0 : Int) (18 : Int) (2 : Int)) (
              ifB (decide (a0.kind = (9 : Int))) (
                k1 a0 (0 : Int) (0 : Int) (0 : Int) (0 : Int) (19 : Int) (2 : Int)) (
                ifB (decide (a0.kind = (10 : Int))) (
                  k1 a0 (0 : Int) (0 : Int) (0 : Int) (0 : Int) (20 : Int) (0 : Int)) (
                  ifB (decide (a0.kind = (11 : Int))) (
                    k1 a0 (0 : Int) (0 : Int) (0 : Int) (0 : Int) (21 : Int) (0 : Int)) (
                    ifB (decide (a0.kind = (12 : Int))) (
                      atI a0.kids (0 : Int) fun x6 =>
                      (s88 x6).bind fun x7 =>
                      atI a0.kids (1 : Int) fun x8 =>
                      (s88 x8).bind fun x9 =>
                      atI a0.kids (2 : Int) fun x10 =>
                      (f102 n x10).bind fun x11 =>
                      atI a0.kids (3 : Int) fun x12 =>
                      (s88 x12).bind fun x13 =>
                      (f127 (23 : Int) a0.i (0 : Int) (5 : Int) [(Tm.mk x7.kind x7.i x7.j x7.n x7.kids), (Tm.mk x9.kind x9.i x9.j x9.n x9.kids), (Tm.mk x11.kind x11.i x11.j x11.n x11.kids), (Tm.mk x13.kind x13.i x13.j x13.n x13.kids)]).bind fun x14 =>
                      some x14) (
                      (f102 n a0).bind fun x15 =>
                      some x15))))))))))
def o88_1 (s88 : Tm → Option Tm) (n : Nat) (k2 : Int → Int → Int → Int → Int → Int → Int → Int → (List Tm) → (List Tm) → Int → Int → Option Tm) (t1 : Tm) (t2_0 : Int) (t2_1 : Int) (t2_2 : Int) (t2_3 : Int) (t3 : Int) (t4 : Int) : Option Tm :=
  ckI ((t1.kids.length : Int) - t4) <|
  ckB (decide (0 ≤ (0 : Int)) && (decide ((0 : Int) ≤ ((t1.kids.length : Int) - t4)) && decide ((56 : Nat) * ((t1.kids.length : Int) - t4) ≤ 281474976710656))) <|
  ckB (decide (0 ≤ t4) && (decide (t4 ≤ (t1.kids.length : Int)) && decide ((t1.kids.length : Int) ≤ t1.kids.length))) <|
  k2 t2_0 t2_1 t2_2 t2_3 t3 (0 : Int) (0 : Int) (0 : Int) (List.replicate (0 : Int).toNat (Tm.mk (0 : Int) (0 : Int) (0 : Int) (0 : Int) ([] : List Tm))) ((t1.kids.take (t1.kids.length : Int).toNat).drop t4.toNat) (((t1.kids.take (t1.kids.length : Int).toNat).drop t4.toNat).length : Int) (0 : Int)
def o88_2 (s88 : Tm → Option Tm) (n : Nat) (k2 : Int → Int → Int → Int → Int → Int → Int → Int → (List Tm) → (List Tm) → Int → Int → Option Tm) (t2_0 : Int) (t2_1 : Int) (t2_2 : Int) (t2_3 : Int) (t5_0 : Int) (t5_1 : Int) (t5_2 : Int) (t5_3 : Int) (t5_4 : List Tm) (t79 : List Tm) (t80 : Int) (t81 : Int) : Option Tm :=
  ifB (decide (t81 < t80)) (
    atI t79 t81 fun x16 =>
    (s88 x16).bind fun x17 =>
    ckB (decide ((t5_4.length + [(Tm.mk x17.kind x17.i x17.j x17.n x17.kids)].length) * 56 ≤ 140737488355328) && decide (t5_4.length + [(Tm.mk x17.kind x17.i x17.j x17.n x17.kids)].length ≤ 9223372036854775807)) <|
    ckI (t81 + (1 : Int)) <|
    k2 t2_0 t2_1 t2_2 t2_3 t5_0 t5_1 t5_2 t5_3 (t5_4 ++ [(Tm.mk x17.kind x17.i x17.j x17.n x17.kids)]) t79 t80 (t81 + (1 : Int))) (
    some (Tm.mk t5_0 t5_1 t5_2 t5_3 t5_4))
def c88_1 (s88 : Tm → Option Tm) (n : Nat) (k2 : Int → Int → Int → Int → Int → Int → Int → Int → (List Tm) → (List Tm) → Int → Int → Option Tm) (t1 : Tm) (t2_0 : Int) (t2_1 : Int) (t2_2 : Int) (t2_3 : Int) (t3 : Int) (t4 : Int) : Option Tm :=
  o88_1 s88 n k2 t1 t2_0 t2_1 t2_2 t2_3 t3 t4
def l88_2 (s88 : Tm → Option Tm) (n : Nat) : Nat → Int → Int → Int → Int → Int → Int → Int → Int → (List Tm) → (List Tm) → Int → Int → Option Tm
  | 0, _, _, _, _, _, _, _, _, _, _, _, _ => none
  | m + 1, t2_0, t2_1, t2_2, t2_3, t5_0, t5_1, t5_2, t5_3, t5_4, t79, t80, t81 => o88_2 s88 n (l88_2 s88 n m) t2_0 t2_1 t2_2 t2_3 t5_0 t5_1 t5_2 t5_3 t5_4 t79 t80 t81
def f88 : Nat → Tm → Option Tm
  | 0, _ => none
  | n + 1, a0 => o88_0 (f88 n) n (c88_1 (f88 n) n (l88_2 (f88 n) n n)) a0
def an88 : An := (.n none [] 0 .z (.n none [] 0 .z (.n (some 1) [(1, .ps 0 .tm false), (2, .p 1 [.c, .c, .c, .c, .k]), (3, .one .c), (4, .one .c)] 2 .z (.n none [] 0 .z (.n none [] 0 (.n none [] 0 .z (.n none [] 0 (.n (some 2) [(2, .p 0 [.c, .c, .c, .c, .k]), (5, .p 1 [.c, .c, .c, .c, .r 2 24 .tm true]), (79, .one (.d .tm false)), (80, .one .c), (81, .one .c)] 3 .z .z) .z)) .z)))))
def F88 : Fn := { f := 88, a := an88, vars := [.cell 2 24], ps := [.st .tm], rs := [.st .tm], own := false, fr := true, nt := 94, D := 4, loops := [2] }
def cs88 (s88 : Tm → Option Tm) (n : Nat) : List Cal := [⟨88, [.st .tm], [.st .tm], true, fun a => s88 a.1⟩, ⟨102, [.st .tm], [.st .tm], true, fun a => f102 n a.1⟩, ⟨127, [.sc .int, .sc .int, .sc .int, .sc .int, .sl .tm], [.pst .tm], true, fun a => f127 a.1 a.2.1 a.2.2.1 a.2.2.2.1 a.2.2.2.2.1⟩]
def st88_1 (t1 : Tm) (t2_0 : Int) (t2_1 : Int) (t2_2 : Int) (t2_3 : Int) (t3 : Int) (t4 : Int) : SS := ⟨[(1, .v (.one (.ptr 0 0))), (2, .v (.one (.ptr 1 0))), (3, .v (.one (.c (.int t3) true))), (4, .v (.one (.c (.int t4) true)))], [(0, some (.bst .tm t1 false)), (1, some (.box [.c (.int t2_0) true, .c (.int t2_1) true, .c (.int t2_2) true, .c (.int t2_3) true, .nils]))], 2⟩
def st88_2 (t2_0 : Int) (t2_1 : Int) (t2_2 : Int) (t2_3 : Int) (t5_0 : Int) (t5_1 : Int) (t5_2 : Int) (t5_3 : Int) (t5_4 : List Tm) (t79 : List Tm) (t80 : Int) (t81 : Int) : SS := ⟨[(2, .v (.one (.ptr 0 0))), (5, .v (.one (.ptr 1 0))), (79, .v (.one (.c (.sl .tm t79) false))), (80, .v (.one (.c (.int t80) true))), (81, .v (.one (.c (.int t81) true)))], [(0, some (.box [.c (.int t2_0) true, .c (.int t2_1) true, .c (.int t2_2) true, .c (.int t2_3) true, .nils])), (1, some (.box [.c (.int t5_0) true, .c (.int t5_1) true, .c (.int t5_2) true, .c (.int t5_3) true, .arr 2])), (2, some (.row 24 .tm t5_4 true))], 3⟩
theorem p88_0 (s88 : Tm → Option Tm) (n : Nat) (lab : Nat → SS → Option (RT.den F88.rs)) (x : PTs.den F88.ps) : F88.body (bodyOf Try.f88) tabR tyR true (cs88 s88 n) lab x = o88_0 s88 n (fun t1 t2_0 t2_1 t2_2 t2_3 t3 t4 => lab 1 (st88_1 t1 t2_0 t2_1 t2_2 t2_3 t3 t4)) x.1 := by kernel_rfl
theorem p88_1 (s88 : Tm → Option Tm) (n : Nat) (lab : Nat → SS → Option (RT.den F88.rs)) (t1 : Tm) (t2_0 : Int) (t2_1 : Int) (t2_2 : Int) (t2_3 : Int) (t3 : Int) (t4 : Int) : F88.at (bodyOf Try.f88) tabR tyR true (cs88 s88 n) lab 1 (st88_1 t1 t2_0 t2_1 t2_2 t2_3 t3 t4) = o88_1 s88 n (fun t2_0 t2_1 t2_2 t2_3 t5_0 t5_1 t5_2 t5_3 t5_4 t79 t80 t81 => lab 2 (st88_2 t2_0 t2_1 t2_2 t2_3 t5_0 t5_1 t5_2 t5_3 t5_4 t79 t80 t81)) t1 t2_0 t2_1 t2_2 t2_3 t3 t4 := by kernel_rfl
theorem p88_2 (s88 : Tm → Option Tm) (n : Nat) (lab : Nat → SS → Option (RT.den F88.rs)) (t2_0 : Int) (t2_1 : Int) (t2_2 : Int) (t2_3 : Int) (t5_0 : Int) (t5_1 : Int) (t5_2 : Int) (t5_3 : Int) (t5_4 : List Tm) (t79 : List Tm) (t80 : Int) (t81 : Int) : F88.at (bodyOf Try.f88) tabR tyR true (cs88 s88 n) lab 2 (st88_2 t2_0 t2_1 t2_2 t2_3 t5_0 t5_1 t5_2 t5_3 t5_4 t79 t80 t81) = o88_2 s88 n (fun t2_0 t2_1 t2_2 t2_3 t5_0 t5_1 t5_2 t5_3 t5_4 t79 t80 t81 => lab 2 (st88_2 t2_0 t2_1 t2_2 t2_3 t5_0 t5_1 t5_2 t5_3 t5_4 t79 t80 t81)) t2_0 t2_1 t2_2 t2_3 t5_0 t5_1 t5_2 t5_3 t5_4 t79 t80 t81 := by kernel_rfl
theorem n88_1 (s88 : Tm → Option Tm) (n : Nat) (rec : Nat → SS → Option (RT.den F88.rs)) (k2 : Int → Int → Int → Int → Int → Int → Int → Int → (List Tm) → (List Tm) → Int → Int → Option Tm) (h2 : ∀ t2_0 t2_1 t2_2 t2_3 t5_0 t5_1 t5_2 t5_3 t5_4 t79 t80 t81, rec 2 (st88_2 t2_0 t2_1 t2_2 t2_3 t5_0 t5_1 t5_2 t5_3 t5_4 t79 t80 t81) = k2 t2_0 t2_1 t2_2 t2_3 t5_0 t5_1 t5_2 t5_3 t5_4 t79 t80 t81) (d : Nat) (t1 : Tm) (t2_0 : Int) (t2_1 : Int) (t2_2 : Int) (t2_3 : Int) (t3 : Int) (t4 : Int) : F88.labD (bodyOf Try.f88) tabR tyR true (cs88 s88 n) rec (d + 1) 1 (st88_1 t1 t2_0 t2_1 t2_2 t2_3 t3 t4) = c88_1 s88 n k2 t1 t2_0 t2_1 t2_2 t2_3 t3 t4 := by
  have e2 : ∀ t2_0 t2_1 t2_2 t2_3 t5_0 t5_1 t5_2 t5_3 t5_4 t79 t80 t81, F88.labX (bodyOf Try.f88) tabR tyR true (cs88 s88 n) rec d 2 (st88_2 t2_0 t2_1 t2_2 t2_3 t5_0 t5_1 t5_2 t5_3 t5_4 t79 t80 t81) = k2 t2_0 t2_1 t2_2 t2_3 t5_0 t5_1 t5_2 t5_3 t5_4 t79 t80 t81 := fun t2_0 t2_1 t2_2 t2_3 t5_0 t5_1 t5_2 t5_3 t5_4 t79 t80 t81 => (Fn.labX_loop _ _ _ _ _ _ _ _ _ _ (by kernel_rfl)).trans (h2 t2_0 t2_1 t2_2 t2_3 t5_0 t5_1 t5_2 t5_3 t5_4 t79 t80 t81)
  show F88.labD (bodyOf Try.f88) tabR tyR true (cs88 s88 n) rec (d + 1) 1 _ = _
  rw [Fn.labD_succ, p88_1]
  simp only [e2]
  rfl
theorem m88_2 (s88 : Tm → Option Tm) (n : Nat) : ∀ m : Nat, (∀ t2_0 t2_1 t2_2 t2_3 t5_0 t5_1 t5_2 t5_3 t5_4 t79 t80 t81, F88.labM (bodyOf Try.f88) tabR tyR true (cs88 s88 n) m 2 (st88_2 t2_0 t2_1 t2_2 t2_3 t5_0 t5_1 t5_2 t5_3 t5_4 t79 t80 t81) = l88_2 s88 n m t2_0 t2_1 t2_2 t2_3 t5_0 t5_1 t5_2 t5_3 t5_4 t79 t80 t81) := by
  intro m
  induction m with
  | zero => exact fun _ _ _ _ _ _ _ _ _ _ _ _ => rfl
  | succ m ih =>
    intro t2_0 t2_1 t2_2 t2_3 t5_0 t5_1 t5_2 t5_3 t5_4 t79 t80 t81
    have e2 : ∀ t2_0 t2_1 t2_2 t2_3 t5_0 t5_1 t5_2 t5_3 t5_4 t79 t80 t81, F88.labX (bodyOf Try.f88) tabR tyR true (cs88 s88 n) (F88.labM (bodyOf Try.f88) tabR tyR true (cs88 s88 n) m) 3 2 (st88_2 t2_0 t2_1 t2_2 t2_3 t5_0 t5_1 t5_2 t5_3 t5_4 t79 t80 t81) = (l88_2 s88 n m) t2_0 t2_1 t2_2 t2_3 t5_0 t5_1 t5_2 t5_3 t5_4 t79 t80 t81 := fun t2_0 t2_1 t2_2 t2_3 t5_0 t5_1 t5_2 t5_3 t5_4 t79 t80 t81 => (Fn.labX_loop _ _ _ _ _ _ _ _ _ _ (by kernel_rfl)).trans (ih t2_0 t2_1 t2_2 t2_3 t5_0 t5_1 t5_2 t5_3 t5_4 t79 t80 t81)
    rw [Fn.labM_succ]
    show F88.labD (bodyOf Try.f88) tabR tyR true (cs88 s88 n) (F88.labM (bodyOf Try.f88) tabR tyR true (cs88 s88 n) m) (3 + 1) 2 _ = _
    rw [Fn.labD_succ, p88_2]
    simp only [e2]
    rfl
theorem w88 (s88 : Tm → Option Tm) (n : Nat) (x : PTs.den F88.ps) : F88.body (bodyOf Try.f88) tabR tyR true (cs88 s88 n) (F88.labX (bodyOf Try.f88) tabR tyR true (cs88 s88 n) (F88.labM (bodyOf Try.f88) tabR tyR true (cs88 s88 n) n) F88.D) x = o88_0 s88 n (c88_1 s88 n (l88_2 s88 n n)) x.1 := by
  have e1 : ∀ t1 t2_0 t2_1 t2_2 t2_3 t3 t4, F88.labX (bodyOf Try.f88) tabR tyR true (cs88 s88 n) (F88.labM (bodyOf Try.f88) tabR tyR true (cs88 s88 n) n) 4 1 (st88_1 t1 t2_0 t2_1 t2_2 t2_3 t3 t4) = c88_1 s88 n (l88_2 s88 n n) t1 t2_0 t2_1 t2_2 t2_3 t3 t4 := fun t1 t2_0 t2_1 t2_2 t2_3 t3 t4 => (Fn.labX_step _ _ _ _ _ _ _ _ _ _ (by kernel_rfl)).trans (n88_1 s88 n (F88.labM (bodyOf Try.f88) tabR tyR true (cs88 s88 n) n) (l88_2 s88 n n) (m88_2 s88 n n) 3 t1 t2_0 t2_1 t2_2 t2_3 t3 t4)
  show F88.body (bodyOf Try.f88) tabR tyR true (cs88 s88 n) (F88.labX (bodyOf Try.f88) tabR tyR true (cs88 s88 n) (F88.labM (bodyOf Try.f88) tabR tyR true (cs88 s88 n) n) 4) x = _
  rw [p88_0]
  simp only [e1]
  try rfl
theorem call88 : Callable Try.prog 88 := callable_of Try.func88 (by kernel_rfl) (by kernel_rfl)
theorem okr88 : ∀ n : Nat, Cal.Ok Try.prog ⟨88, F88.ps, F88.rs, F88.fr, fun a => f88 n a.1⟩
  | 0 => ⟨by kernel_rfl, fun a r h => by cases h⟩
  | n + 1 => cal_of_fn F88 (code := bodyOf Try.f88) Try.func88 (by kernel_rfl) (by kernel_rfl) call88 htabR (cs := cs88 (f88 n) n) (fun c hc => by
      simp only [cs88, List.mem_cons, List.not_mem_nil, or_false] at hc
      rcases hc with rfl | rfl | rfl
      · exact (okr88 n)
      · exact ok102 n
      · exact ok127p) (fun _ => mixed) (by kernel_rfl) (by kernel_rfl) (by decide) (fun x => ⟨n, w88 (f88 n) n x⟩)
theorem ok88 (n : Nat) : Cal.Ok Try.prog ⟨88, F88.ps, F88.rs, F88.fr, fun a => f88 n a.1⟩ := (okr88 n)
-- tranship/strip.Strip
def o30_0 (n : Nat) (a0 : Tm) : Option Tm :=
  (f87 n a0).bind fun x1 =>
  ifB (!x1) (
    some (Tm.mk (0 : Int) (0 : Int) (0 : Int) (0 : Int) ([] : List Tm))) (
    (f88 n a0).bind fun x2 =>
    some x2)
def f30 (n : Nat) (a0 : Tm) : Option Tm := o30_0 n a0
def an30 : An := .z
def F30 : Fn := { f := 30, a := an30, vars := [.cell 2 24], ps := [.st .tm], rs := [.st .tm], own := false, fr := true, nt := 9, D := 2, loops := [] }
def cs30 (n : Nat) : List Cal := [⟨87, [.st .tm], [.sc .bool], true, fun a => f87 n a.1⟩, ⟨88, [.st .tm], [.st .tm], true, fun a => f88 n a.1⟩]
theorem p30_0 (n : Nat) (lab : Nat → SS → Option (RT.den F30.rs)) (x : PTs.den F30.ps) : F30.body (bodyOf Try.f30) tabR tyR true (cs30 n) lab x = o30_0 n x.1 := by kernel_rfl
theorem w30 (n : Nat) (x : PTs.den F30.ps) : F30.body (bodyOf Try.f30) tabR tyR true (cs30 n) (F30.labX (bodyOf Try.f30) tabR tyR true (cs30 n) (F30.labM (bodyOf Try.f30) tabR tyR true (cs30 n) 0) F30.D) x = o30_0 n x.1 := by
  show F30.body (bodyOf Try.f30) tabR tyR true (cs30 n) (F30.labX (bodyOf Try.f30) tabR tyR true (cs30 n) (F30.labM (bodyOf Try.f30) tabR tyR true (cs30 n) 0) 2) x = _
  rw [p30_0]
theorem call30 : Callable Try.prog 30 := callable_of Try.func30 (by kernel_rfl) (by kernel_rfl)
theorem ok30 (n : Nat) : Cal.Ok Try.prog ⟨30, F30.ps, F30.rs, F30.fr, fun a => f30 n a.1⟩ :=
  cal_of_fn F30 (code := bodyOf Try.f30) Try.func30 (by kernel_rfl) (by kernel_rfl) call30 htabR (cs := cs30 n) (fun c hc => by
      simp only [cs30, List.mem_cons, List.not_mem_nil, or_false] at hc
      rcases hc with rfl | rfl
      · exact ok87 n
      · exact ok88 n) (fun _ => mixed) (by kernel_rfl) (by kernel_rfl) (by decide) (fun x => ⟨0, w30 n x⟩)
-- tranship/transhipref04.lift
def o91_0 (s91 : Tm → Int → Int → Option (Tm × Bool)) (n : Nat) (k2 : Int → Int → Tm → Int → Int → Int → Int → Int → Int → Int → Int → Bool → Option (Tm × Bool)) (a0 : Tm) (a1 : Int) (a2 : Int) : Option (Tm × Bool) :=
  ifB (decide (a0.kind = (2 : Int))) (
    k2 a1 a2 a0 (0 : Int) (0 : Int) (0 : Int) (0 : Int) a0.kind a0.i a0.j a0.n (decide (a2 ≤ a0.i))) (
    k2 a1 a2 a0 (0 : Int) (0 : Int) (0 : Int) (0 : Int) a0.kind a0.i a0.j a0.n false)
def o91_1 (s91 : Tm → Int → Int → Option (Tm × Bool)) (n : Nat) (k3 : Int → Int → Tm → Int → Int → Int → Int → Int → Int → Int → Int → (List Tm) → Int → Option (Tm × Bool)) (t1 : Int) (t2 : Int) (t3 : Tm) (t6_0 : Int) (t6_1 : Int) (t6_2 : Int) (t6_3 : Int) (t8_0 : Int) (t8_1 : Int) (t8_2 : Int) (t8_3 : Int) : Option (Tm × Bool) :=
  k3 t1 t2 t3 t6_0 t6_1 t6_2 t6_3 t8_0 t8_1 t8_2 t8_3 ([] : List Tm) (0 : Int)
def o91_2 (s91 : Tm → Int → Int → Option (Tm × Bool)) (n : Nat) (k1 : Int → Int → Tm → Int → Int → Int → Int → Int → Int → Int → Int → Option (Tm × Bool)) (t1 : Int) (t2 : Int) (t3 : Tm) (t6_0 : Int) (t6_1 : Int) (t6_2 : Int) (t6_3 : Int) (t8_0 : Int) (t8_1 : Int) (t8_2 : Int) (t8_3 : Int) (t31 : Bool) : Option (Tm × Bool) :=
  ifB t31 (
    ckI ((2147483647 : Int) - t3.i) <|
    ifB (decide (((2147483647 : Int) - t3.i) < t1)) (
      some ((Tm.mk (0 : Int) (0 : Int) (0 : Int) (0 : Int) ([] : List Tm)), false)) (
      ckI (t3.i + t1) <|
      k1 t1 t2 t3 t6_0 t6_1 t6_2 t6_3 t8_0 (t3.i + t1) t8_2 t8_3)) (
    k1 t1 t2 t3 t6_0 t6_1 t6_2 t6_3 t8_0 t8_1 t8_2 t8_3)
def o91_3 (s91 : Tm → Int → Int → Option (Tm × Bool)) (n : Nat) (k4 : Int → Int → Tm → Int → Int → Int → Int → Int → Int → Int → Int → (List Tm) → Int → Int → Option (Tm × Bool)) (t1 : Int) (t2 : Int) (t3 : Tm) (t6_0 : Int) (t6_1 : Int) (t6_2 : Int) (t6_3 : Int) (t8_0 : Int) (t8_1 : Int) (t8_2 : Int) (t8_3 : Int) (t9 : List Tm) (t10 : Int) : Option (Tm × Bool) :=
  ifB (decide (t10 < (t3.kids.length : Int))) (
    (f128 t3.kind t10).bind fun x1 =>
    ifB (decide ((4611686018427387904 : Int) < t2)) (
      k4 t1 t2 t3 t6_0 t6_1 t6_2 t6_3 t8_0 t8_1 t8_2 t8_3 t9 t10 (0 : Int)) (
      k4 t1 t2 t3 t6_0 t6_1 t6_2 t6_3 t8_0 t8_1 t8_2 t8_3 t9 t10 x1)) (
    some ((Tm.mk t8_0 t8_1 t8_2 t8_3 t9), true))
def o91_4 (s91 : Tm → Int → Int → Option (Tm × Bool)) (n : Nat) (k3 : Int → Int → Tm → Int → Int → Int → Int → Int → Int → Int → Int → (List Tm) → Int → Option (Tm × Bool)) (t1 : Int) (t2 : Int) (t3 : Tm) (t6_0 : Int) (t6_1 : Int) (t6_2 : Int) (t6_3 : Int) (t8_0 : Int) (t8_1 : Int) (t8_2 : Int) (t8_3 : Int) (t9 : List Tm) (t10 : Int) (t11 : Int) : Option (Tm × Bool) :=
  atI t3.kids t10 fun x2 =>
  ckI (t2 + t11) <|
  (s91 x2 t1 (t2 + t11)).bind fun x3 =>
  ifB (!x3.2) (
    some ((Tm.mk (0 : Int) (0 : Int) (0 : Int) (0 : Int) ([] : List Tm)), false)) (
    ckB (decide ((t9.length + [(Tm.mk x3.1.kind x3.1.i x3.1.j x3.1.n x3.1.kids)].length) * 56 ≤ 140737488355328) && decide (t9.length + [(Tm.mk x3.1.kind x3.1.i x3.1.j x3.1.n x3.1.kids)].length ≤ 9223372036854775807)) <|
    ckI (t10 + (1 : Int)) <|
    k3 t1 t2 t3 t6_0 t6_1 t6_2 t6_3 t8_0 t8_1 t8_2 t8_3 (t9 ++ [(Tm.mk x3.1.kind x3.1.i x3.1.j x3.1.n x3.1.kids)]) (t10 + (1 : Int)))
def c91_1 (s91 : Tm → Int → Int → Option (Tm × Bool)) (n : Nat) (k3 : Int → Int → Tm → Int → Int → Int → Int → Int → Int → Int → Int → (List Tm) → Int → Option (Tm × Bool)) (t1 : Int) (t2 : Int) (t3 : Tm) (t6_0 : Int) (t6_1 : Int) (t6_2 : Int) (t6_3 : Int) (t8_0 : Int) (t8_1 : Int) (t8_2 : Int) (t8_3 : Int) : Option (Tm × Bool) :=
  o91_1 s91 n k3 t1 t2 t3 t6_0 t6_1 t6_2 t6_3 t8_0 t8_1 t8_2 t8_3
def c91_2 (s91 : Tm → Int → Int → Option (Tm × Bool)) (n : Nat) (k3 : Int → Int → Tm → Int → Int → Int → Int → Int → Int → Int → Int → (List Tm) → Int → Option (Tm × Bool)) (t1 : Int) (t2 : Int) (t3 : Tm) (t6_0 : Int) (t6_1 : Int) (t6_2 : Int) (t6_3 : Int) (t8_0 : Int) (t8_1 : Int) (t8_2 : Int) (t8_3 : Int) (t31 : Bool) : Option (Tm × Bool) :=
  o91_2 s91 n (c91_1 s91 n k3) t1 t2 t3 t6_0 t6_1 t6_2 t6_3 t8_0 t8_1 t8_2 t8_3 t31
def c91_4 (s91 : Tm → Int → Int → Option (Tm × Bool)) (n : Nat) (k3 : Int → Int → Tm → Int → Int → Int → Int → Int → Int → Int → Int → (List Tm) → Int → Option (Tm × Bool)) (t1 : Int) (t2 : Int) (t3 : Tm) (t6_0 : Int) (t6_1 : Int) (t6_2 : Int) (t6_3 : Int) (t8_0 : Int) (t8_1 : Int) (t8_2 : Int) (t8_3 : Int) (t9 : List Tm) (t10 : Int) (t11 : Int) : Option (Tm × Bool) :=
  o91_4 s91 n k3 t1 t2 t3 t6_0 t6_1 t6_2 t6_3 t8_0 t8_1 t8_2 t8_3 t9 t10 t11
def l91_3 (s91 : Tm → Int → Int → Option (Tm × Bool)) (n : Nat) : Nat → Int → Int → Tm → Int → Int → Int → Int → Int → Int → Int → Int → (List Tm) → Int → Option (Tm × Bool)
  | 0, _, _, _, _, _, _, _, _, _, _, _, _, _ => none
  | m + 1, t1, t2, t3, t6_0, t6_1, t6_2, t6_3, t8_0, t8_1, t8_2, t8_3, t9, t10 => o91_3 s91 n (c91_4 s91 n (l91_3 s91 n m)) t1 t2 t3 t6_0 t6_1 t6_2 t6_3 t8_0 t8_1 t8_2 t8_3 t9 t10
def f91 : Nat → Tm → Int → Int → Option (Tm × Bool)
  | 0, _, _, _ => none
  | n + 1, a0, a1, a2 => o91_0 (f91 n) n (c91_2 (f91 n) n (l91_3 (f91 n) n n)) a0 a1 a2
def an91 : An := (.n none [] 0 .z (.n none [] 0 .z (.n (some 1) [(1, .one .c), (2, .one .c), (3, .ps 0 .tm false), (6, .p 1 [.c, .c, .c, .c, .k]), (8, .p 2 [.c, .c, .c, .c, .k])] 3 (.n (some 2) [(1, .one .c), (2, .one .c), (3, .ps 0 .tm false), (6, .p 1 [.c, .c, .c, .c, .k]), (8, .p 2 [.c, .c, .c, .c, .k]), (31, .one .c)] 3 .z .z) (.n none [] 0 .z (.n none [] 0 (.n none [] 0 .z (.n none [] 0 (.n (some 3) [(1, .one .c), (2, .one .c), (3, .ps 0 .tm false), (6, .p 1 [.c, .c, .c, .c, .k]), (8, .p 2 [.c, .c, .c, .c, .k]), (9, .one (.r 3 24 .tm true)), (10, .one .c)] 4 (.n none [] 0 .z (.n none [] 0 (.n none [] 0 (.n none [] 0 .z (.n (some 4) [(1, .one .c), (2, .one .c), (3, .ps 0 .tm false), (6, .p 1 [.c, .c, .c, .c, .k]), (8, .p 2 [.c, .c, .c, .c, .k]), (9, .one (.r 3 24 .tm true)), (10, .one .c), (11, .one .c)] 4 .z .z)) .z) .z)) .z) .z)) .z)))))
def F91 : Fn := { f := 91, a := an91, vars := [.cell 6 24, .tmp 7], ps := [.st .tm, .sc .int, .sc .int], rs := [.st .tm, .sc .bool], own := false, fr := true, nt := 79, D := 6, loops := [3] }
def cs91 (s91 : Tm → Int → Int → Option (Tm × Bool)) (n : Nat) : List Cal := [⟨91, [.st .tm, .sc .int, .sc .int], [.st .tm, .sc .bool], true, fun a => s91 a.1 a.2.1 a.2.2.1⟩, ⟨128, [.sc .int, .sc .int], [.sc .int], true, fun a => f128 a.1 a.2.1⟩]
def st91_1 (t1 : Int) (t2 : Int) (t3 : Tm) (t6_0 : Int) (t6_1 : Int) (t6_2 : Int) (t6_3 : Int) (t8_0 : Int) (t8_1 : Int) (t8_2 : Int) (t8_3 : Int) : SS := ⟨[(1, .v (.one (.c (.int t1) true))), (2, .v (.one (.c (.int t2) true))), (3, .v (.one (.ptr 0 0))), (6, .v (.one (.ptr 1 0))), (8, .v (.one (.ptr 2 0)))], [(0, some (.bst .tm t3 false)), (1, some (.box [.c (.int t6_0) true, .c (.int t6_1) true, .c (.int t6_2) true, .c (.int t6_3) true, .nils])), (2, some (.box [.c (.int t8_0) true, .c (.int t8_1) true, .c (.int t8_2) true, .c (.int t8_3) true, .nils]))], 3⟩
def st91_2 (t1 : Int) (t2 : Int) (t3 : Tm) (t6_0 : Int) (t6_1 : Int) (t6_2 : Int) (t6_3 : Int) (t8_0 : Int) (t8_1 : Int) (t8_2 : Int) (t8_3 : Int) (t31 : Bool) : SS := ⟨[(1, .v (.one (.c (.int t1) true))), (2, .v (.one (.c (.int t2) true))), (3, .v (.one (.ptr 0 0))), (6, .v (.one (.ptr 1 0))), (8, .v (.one (.ptr 2 0))), (31, .v (.one (.c (.bool t31) true)))], [(0, some (.bst .tm t3 false)), (1, some (.box [.c (.int t6_0) true, .c (.int t6_1) true, .c (.int t6_2) true, .c (.int t6_3) true, .nils])), (2, some (.box [.c (.int t8_0) true, .c (.int t8_1) true, .c (.int t8_2) true, .c (.int t8_3) true, .nils]))], 3⟩
def st91_3 (t1 : Int) (t2 : Int) (t3 : Tm) (t6_0 : Int) (t6_1 : Int) (t6_2 : Int) (t6_3 : Int) (t8_0 : Int) (t8_1 : Int) (t8_2 : Int) (t8_3 : Int) (t9 : List Tm) (t10 : Int) : SS := ⟨[(1, .v (.one (.c (.int t1) true))), (2, .v (.one (.c (.int t2) true))), (3, .v (.one (.ptr 0 0))), (6, .v (.one (.ptr 1 0))), (8, .v (.one (.ptr 2 0))), (9, .v (.one (.arr 3))), (10, .v (.one (.c (.int t10) true)))], [(0, some (.bst .tm t3 false)), (1, some (.box [.c (.int t6_0) true, .c (.int t6_1) true, .c (.int t6_2) true, .c (.int t6_3) true, .nils])), (2, some (.box [.c (.int t8_0) true, .c (.int t8_1) true, .c (.int t8_2) true, .c (.int t8_3) true, .nils])), (3, some (.row 24 .tm t9 true))], 4⟩
def st91_4 (t1 : Int) (t2 : Int) (t3 : Tm) (t6_0 : Int) (t6_1 : Int) (t6_2 : Int) (t6_3 : Int) (t8_0 : Int) (t8_1 : Int) (t8_2 : Int) (t8_3 : Int) (t9 : List Tm) (t10 : Int) (t11 : Int) : SS := ⟨[(1, .v (.one (.c (.int t1) true))), (2, .v (.one (.c (.int t2) true))), (3, .v (.one (.ptr 0 0))), (6, .v (.one (.ptr 1 0))), (8, .v (.one (.ptr 2 0))), (9, .v (.one (.arr 3))), (10, .v (.one (.c (.int t10) true))), (11, .v (.one (.c (.int t11) true)))], [(0, some (.bst .tm t3 false)), (1, some (.box [.c (.int t6_0) true, .c (.int t6_1) true, .c (.int t6_2) true, .c (.int t6_3) true, .nils])), (2, some (.box [.c (.int t8_0) true, .c (.int t8_1) true, .c (.int t8_2) true, .c (.int t8_3) true, .nils])), (3, some (.row 24 .tm t9 true))], 4⟩
theorem p91_0 (s91 : Tm → Int → Int → Option (Tm × Bool)) (n : Nat) (lab : Nat → SS → Option (RT.den F91.rs)) (x : PTs.den F91.ps) : F91.body (bodyOf Try.f91) tabR tyR true (cs91 s91 n) lab x = o91_0 s91 n (fun t1 t2 t3 t6_0 t6_1 t6_2 t6_3 t8_0 t8_1 t8_2 t8_3 t31 => lab 2 (st91_2 t1 t2 t3 t6_0 t6_1 t6_2 t6_3 t8_0 t8_1 t8_2 t8_3 t31)) x.1 x.2.1 x.2.2.1 := by kernel_rfl
theorem p91_1 (s91 : Tm → Int → Int → Option (Tm × Bool)) (n : Nat) (lab : Nat → SS → Option (RT.den F91.rs)) (t1 : Int) (t2 : Int) (t3 : Tm) (t6_0 : Int) (t6_1 : Int) (t6_2 : Int) (t6_3 : Int) (t8_0 : Int) (t8_1 : Int) (t8_2 : Int) (t8_3 : Int) : F91.at (bodyOf Try.f91) tabR tyR true (cs91 s91 n) lab 1 (st91_1 t1 t2 t3 t6_0 t6_1 t6_2 t6_3 t8_0 t8_1 t8_2 t8_3) = o91_1 s91 n (fun t1 t2 t3 t6_0 t6_1 t6_2 t6_3 t8_0 t8_1 t8_2 t8_3 t9 t10 => lab 3 (st91_3 t1 t2 t3 t6_0 t6_1 t6_2 t6_3 t8_0 t8_1 t8_2 t8_3 t9 t10)) t1 t2 t3 t6_0 t6_1 t6_2 t6_3 t8_0 t8_1 t8_2 t8_3 := by kernel_rfl
theorem p91_2 (s91 : Tm → Int → Int → Option (Tm × Bool)) (n : Nat) (lab : Nat → SS → Option (RT.den F91.rs)) (t1 : Int) (t2 : Int) (t3 : Tm) (t6_0 : Int) (t6_1 : Int) (t6_2 : Int) (t6_3 : Int) (t8_0 : Int) (t8_1 : Int) (t8_2 : Int) (t8_3 : Int) (t31 : Bool) : F91.at (bodyOf Try.f91) tabR tyR true (cs91 s91 n) lab 2 (st91_2 t1 t2 t3 t6_0 t6_1 t6_2 t6_3 t8_0 t8_1 t8_2 t8_3 t31) = o91_2 s91 n (fun t1 t2 t3 t6_0 t6_1 t6_2 t6_3 t8_0 t8_1 t8_2 t8_3 => lab 1 (st91_1 t1 t2 t3 t6_0 t6_1 t6_2 t6_3 t8_0 t8_1 t8_2 t8_3)) t1 t2 t3 t6_0 t6_1 t6_2 t6_3 t8_0 t8_1 t8_2 t8_3 t31 := by kernel_rfl
theorem p91_3 (s91 : Tm → Int → Int → Option (Tm × Bool)) (n : Nat) (lab : Nat → SS → Option (RT.den F91.rs)) (t1 : Int) (t2 : Int) (t3 : Tm) (t6_0 : Int) (t6_1 : Int) (t6_2 : Int) (t6_3 : Int) (t8_0 : Int) (t8_1 : Int) (t8_2 : Int) (t8_3 : Int) (t9 : List Tm) (t10 : Int) : F91.at (bodyOf Try.f91) tabR tyR true (cs91 s91 n) lab 3 (st91_3 t1 t2 t3 t6_0 t6_1 t6_2 t6_3 t8_0 t8_1 t8_2 t8_3 t9 t10) = o91_3 s91 n (fun t1 t2 t3 t6_0 t6_1 t6_2 t6_3 t8_0 t8_1 t8_2 t8_3 t9 t10 t11 => lab 4 (st91_4 t1 t2 t3 t6_0 t6_1 t6_2 t6_3 t8_0 t8_1 t8_2 t8_3 t9 t10 t11)) t1 t2 t3 t6_0 t6_1 t6_2 t6_3 t8_0 t8_1 t8_2 t8_3 t9 t10 := by kernel_rfl
theorem p91_4 (s91 : Tm → Int → Int → Option (Tm × Bool)) (n : Nat) (lab : Nat → SS → Option (RT.den F91.rs)) (t1 : Int) (t2 : Int) (t3 : Tm) (t6_0 : Int) (t6_1 : Int) (t6_2 : Int) (t6_3 : Int) (t8_0 : Int) (t8_1 : Int) (t8_2 : Int) (t8_3 : Int) (t9 : List Tm) (t10 : Int) (t11 : Int) : F91.at (bodyOf Try.f91) tabR tyR true (cs91 s91 n) lab 4 (st91_4 t1 t2 t3 t6_0 t6_1 t6_2 t6_3 t8_0 t8_1 t8_2 t8_3 t9 t10 t11) = o91_4 s91 n (fun t1 t2 t3 t6_0 t6_1 t6_2 t6_3 t8_0 t8_1 t8_2 t8_3 t9 t10 => lab 3 (st91_3 t1 t2 t3 t6_0 t6_1 t6_2 t6_3 t8_0 t8_1 t8_2 t8_3 t9 t10)) t1 t2 t3 t6_0 t6_1 t6_2 t6_3 t8_0 t8_1 t8_2 t8_3 t9 t10 t11 := by kernel_rfl
theorem n91_1 (s91 : Tm → Int → Int → Option (Tm × Bool)) (n : Nat) (rec : Nat → SS → Option (RT.den F91.rs)) (k3 : Int → Int → Tm → Int → Int → Int → Int → Int → Int → Int → Int → (List Tm) → Int → Option (Tm × Bool)) (h3 : ∀ t1 t2 t3 t6_0 t6_1 t6_2 t6_3 t8_0 t8_1 t8_2 t8_3 t9 t10, rec 3 (st91_3 t1 t2 t3 t6_0 t6_1 t6_2 t6_3 t8_0 t8_1 t8_2 t8_3 t9 t10) = k3 t1 t2 t3 t6_0 t6_1 t6_2 t6_3 t8_0 t8_1 t8_2 t8_3 t9 t10) (d : Nat) (t1 : Int) (t2 : Int) (t3 : Tm) (t6_0 : Int) (t6_1 : Int) (t6_2 : Int) (t6_3 : Int) (t8_0 : Int) (t8_1 : Int) (t8_2 : Int) (t8_3 : Int) : F91.labD (bodyOf Try.f91) tabR tyR true (cs91 s91 n) rec (d + 1) 1 (st91_1 t1 t2 t3 t6_0 t6_1 t6_2 t6_3 t8_0 t8_1 t8_2 t8_3) = c91_1 s91 n k3 t1 t2 t3 t6_0 t6_1 t6_2 t6_3 t8_0 t8_1 t8_2 t8_3 := by
  have e3 : ∀ t1 t2 t3 t6_0 t6_1 t6_2 t6_3 t8_0 t8_1 t8_2 t8_3 t9 t10, F91.labX (bodyOf Try.f91) tabR tyR true (cs91 s91 n) rec d 3 (st91_3 t1 t2 t3 t6_0 t6_1 t6_2 t6_3 t8_0 t8_1 t8_2 t8_3 t9 t10) = k3 t1 t2 t3 t6_0 t6_1 t6_2 t6_3 t8_0 t8_1 t8_2 t8_3 t9 t10 := fun t1 t2 t3 t6_0 t6_1 t6_2 t6_3 t8_0 t8_1 t8_2 t8_3 t9 t10 => (Fn.labX_loop _ _ _ _ _ _ _ _ _ _ (by kernel_rfl)).trans (h3 t1 t2 t3 t6_0 t6_1 t6_2 t6_3 t8_0 t8_1 t8_2 t8_3 t9 t10)
  show F91.labD (bodyOf Try.f91) tabR tyR true (cs91 s91 n) rec (d + 1) 1 _ = _
  rw [Fn.labD_succ, p91_1]
  simp only [e3]
  rfl
theorem n91_2 (s91 : Tm → Int → Int → Option (Tm × Bool)) (n : Nat) (rec : Nat → SS → Option (RT.den F91.rs)) (k3 : Int → Int → Tm → Int → Int → Int → Int → Int → Int → Int → Int → (List Tm) → Int → Option (Tm × Bool)) (h3 : ∀ t1 t2 t3 t6_0 t6_1 t6_2 t6_3 t8_0 t8_1 t8_2 t8_3 t9 t10, rec 3 (st91_3 t1 t2 t3 t6_0 t6_1 t6_2 t6_3 t8_0 t8_1 t8_2 t8_3 t9 t10) = k3 t1 t2 t3 t6_0 t6_1 t6_2 t6_3 t8_0 t8_1 t8_2 t8_3 t9 t10) (d : Nat) (t1 : Int) (t2 : Int) (t3 : Tm) (t6_0 : Int) (t6_1 : Int) (t6_2 : Int) (t6_3 : Int) (t8_0 : Int) (t8_1 : Int) (t8_2 : Int) (t8_3 : Int) (t31 : Bool) : F91.labD (bodyOf Try.f91) tabR tyR true (cs91 s91 n) rec (d + 2) 2 (st91_2 t1 t2 t3 t6_0 t6_1 t6_2 t6_3 t8_0 t8_1 t8_2 t8_3 t31) = c91_2 s91 n k3 t1 t2 t3 t6_0 t6_1 t6_2 t6_3 t8_0 t8_1 t8_2 t8_3 t31 := by
  have e1 : ∀ t1 t2 t3 t6_0 t6_1 t6_2 t6_3 t8_0 t8_1 t8_2 t8_3, F91.labX (bodyOf Try.f91) tabR tyR true (cs91 s91 n) rec (d + 1) 1 (st91_1 t1 t2 t3 t6_0 t6_1 t6_2 t6_3 t8_0 t8_1 t8_2 t8_3) = c91_1 s91 n k3 t1 t2 t3 t6_0 t6_1 t6_2 t6_3 t8_0 t8_1 t8_2 t8_3 := fun t1 t2 t3 t6_0 t6_1 t6_2 t6_3 t8_0 t8_1 t8_2 t8_3 => (Fn.labX_step _ _ _ _ _ _ _ _ _ _ (by kernel_rfl)).trans (n91_1 s91 n rec k3 h3 d t1 t2 t3 t6_0 t6_1 t6_2 t6_3 t8_0 t8_1 t8_2 t8_3)
  show F91.labD (bodyOf Try.f91) tabR tyR true (cs91 s91 n) rec ((d + 1) + 1) 2 _ = _
  rw [Fn.labD_succ, p91_2]
  simp only [e1]
  rfl
theorem n91_4 (s91 : Tm → Int → Int → Option (Tm × Bool)) (n : Nat) (rec : Nat → SS → Option (RT.den F91.rs)) (k3 : Int → Int → Tm → Int → Int → Int → Int → Int → Int → Int → Int → (List Tm) → Int → Option (Tm × Bool)) (h3 : ∀ t1 t2 t3 t6_0 t6_1 t6_2 t6_3 t8_0 t8_1 t8_2 t8_3 t9 t10, rec 3 (st91_3 t1 t2 t3 t6_0 t6_1 t6_2 t6_3 t8_0 t8_1 t8_2 t8_3 t9 t10) = k3 t1 t2 t3 t6_0 t6_1 t6_2 t6_3 t8_0 t8_1 t8_2 t8_3 t9 t10) (d : Nat) (t1 : Int) (t2 : Int) (t3 : Tm) (t6_0 : Int) (t6_1 : Int) (t6_2 : Int) (t6_3 : Int) (t8_0 : Int) (t8_1 : Int) (t8_2 : Int) (t8_3 : Int) (t9 : List Tm) (t10 : Int) (t11 : Int) : F91.labD (bodyOf Try.f91) tabR tyR true (cs91 s91 n) rec (d + 1) 4 (st91_4 t1 t2 t3 t6_0 t6_1 t6_2 t6_3 t8_0 t8_1 t8_2 t8_3 t9 t10 t11) = c91_4 s91 n k3 t1 t2 t3 t6_0 t6_1 t6_2 t6_3 t8_0 t8_1 t8_2 t8_3 t9 t10 t11 := by
  have e3 : ∀ t1 t2 t3 t6_0 t6_1 t6_2 t6_3 t8_0 t8_1 t8_2 t8_3 t9 t10, F91.labX (bodyOf Try.f91) tabR tyR true (cs91 s91 n) rec d 3 (st91_3 t1 t2 t3 t6_0 t6_1 t6_2 t6_3 t8_0 t8_1 t8_2 t8_3 t9 t10) = k3 t1 t2 t3 t6_0 t6_1 t6_2 t6_3 t8_0 t8_1 t8_2 t8_3 t9 t10 := fun t1 t2 t3 t6_0 t6_1 t6_2 t6_3 t8_0 t8_1 t8_2 t8_3 t9 t10 => (Fn.labX_loop _ _ _ _ _ _ _ _ _ _ (by kernel_rfl)).trans (h3 t1 t2 t3 t6_0 t6_1 t6_2 t6_3 t8_0 t8_1 t8_2 t8_3 t9 t10)
  show F91.labD (bodyOf Try.f91) tabR tyR true (cs91 s91 n) rec (d + 1) 4 _ = _
  rw [Fn.labD_succ, p91_4]
  simp only [e3]
  rfl
theorem m91_3 (s91 : Tm → Int → Int → Option (Tm × Bool)) (n : Nat) : ∀ m : Nat, (∀ t1 t2 t3 t6_0 t6_1 t6_2 t6_3 t8_0 t8_1 t8_2 t8_3 t9 t10, F91.labM (bodyOf Try.f91) tabR tyR true (cs91 s91 n) m 3 (st91_3 t1 t2 t3 t6_0 t6_1 t6_2 t6_3 t8_0 t8_1 t8_2 t8_3 t9 t10) = l91_3 s91 n m t1 t2 t3 t6_0 t6_1 t6_2 t6_3 t8_0 t8_1 t8_2 t8_3 t9 t10) := by
  intro m
  induction m with
  | zero => exact fun _ _ _ _ _ _ _ _ _ _ _ _ _ => rfl
  | succ m ih =>
    intro t1 t2 t3 t6_0 t6_1 t6_2 t6_3 t8_0 t8_1 t8_2 t8_3 t9 t10
    have e4 : ∀ t1 t2 t3 t6_0 t6_1 t6_2 t6_3 t8_0 t8_1 t8_2 t8_3 t9 t10 t11, F91.labX (bodyOf Try.f91) tabR tyR true (cs91 s91 n) (F91.labM (bodyOf Try.f91) tabR tyR true (cs91 s91 n) m) 5 4 (st91_4 t1 t2 t3 t6_0 t6_1 t6_2 t6_3 t8_0 t8_1 t8_2 t8_3 t9 t10 t11) = c91_4 s91 n (l91_3 s91 n m) t1 t2 t3 t6_0 t6_1 t6_2 t6_3 t8_0 t8_1 t8_2 t8_3 t9 t10 t11 := fun t1 t2 t3 t6_0 t6_1 t6_2 t6_3 t8_0 t8_1 t8_2 t8_3 t9 t10 t11 => (Fn.labX_step _ _ _ _ _ _ _ _ _ _ (by kernel_rfl)).trans (n91_4 s91 n (F91.labM (bodyOf Try.f91) tabR tyR true (cs91 s91 n) m) (l91_3 s91 n m) ih 4 t1 t2 t3 t6_0 t6_1 t6_2 t6_3 t8_0 t8_1 t8_2 t8_3 t9 t10 t11)
    rw [Fn.labM_succ]
    show F91.labD (bodyOf Try.f91) tabR tyR true (cs91 s91 n) (F91.labM (bodyOf Try.f91) tabR tyR true (cs91 s91 n) m) (5 + 1) 3 _ = _
    rw [Fn.labD_succ, p91_3]
    simp only [e4]
    rfl
theorem w91 (s91 : Tm → Int → Int → Option (Tm × Bool)) (n : Nat) (x : PTs.den F91.ps) : F91.body (bodyOf Try.f91) tabR tyR true (cs91 s91 n) (F91.labX (bodyOf Try.f91) tabR tyR true (cs91 s91 n) (F91.labM (bodyOf Try.f91) tabR tyR true (cs91 s91 n) n) F91.D) x = o91_0 s91 n (c91_2 s91 n (l91_3 s91 n n)) x.1 x.2.1 x.2.2.1 := by
  have e2 : ∀ t1 t2 t3 t6_0 t6_1 t6_2 t6_3 t8_0 t8_1 t8_2 t8_3 t31, F91.labX (bodyOf Try.f91) tabR tyR true (cs91 s91 n) (F91.labM (bodyOf Try.f91) tabR tyR true (cs91 s91 n) n) 6 2 (st91_2 t1 t2 t3 t6_0 t6_1 t6_2 t6_3 t8_0 t8_1 t8_2 t8_3 t31) = c91_2 s91 n (l91_3 s91 n n) t1 t2 t3 t6_0 t6_1 t6_2 t6_3 t8_0 t8_1 t8_2 t8_3 t31 := fun t1 t2 t3 t6_0 t6_1 t6_2 t6_3 t8_0 t8_1 t8_2 t8_3 t31 => (Fn.labX_step _ _ _ _ _ _ _ _ _ _ (by kernel_rfl)).trans (n91_2 s91 n (F91.labM (bodyOf Try.f91) tabR tyR true (cs91 s91 n) n) (l91_3 s91 n n) (m91_3 s91 n n) 4 t1 t2 t3 t6_0 t6_1 t6_2 t6_3 t8_0 t8_1 t8_2 t8_3 t31)
  show F91.body (bodyOf Try.f91) tabR tyR true (cs91 s91 n) (F91.labX (bodyOf Try.f91) tabR tyR true (cs91 s91 n) (F91.labM (bodyOf Try.f91) tabR tyR true (cs91 s91 n) n) 6) x = _
  rw [p91_0]
  simp only [e2]
  try rfl
theorem call91 : Callable Try.prog 91 := callable_of Try.func91 (by kernel_rfl) (by kernel_rfl)
theorem okr91 : ∀ n : Nat, Cal.Ok Try.prog ⟨91, F91.ps, F91.rs, F91.fr, fun a => f91 n a.1 a.2.1 a.2.2.1⟩
  | 0 => ⟨by kernel_rfl, fun a r h => by cases h⟩
  | n + 1 => cal_of_fn F91 (code := bodyOf Try.f91) Try.func91 (by kernel_rfl) (by kernel_rfl) call91 htabR (cs := cs91 (f91 n) n) (fun c hc => by
      simp only [cs91, List.mem_cons, List.not_mem_nil, or_false] at hc
      rcases hc with rfl | rfl
      · exact (okr91 n)
      · exact ok128) (fun _ => mixed) (by kernel_rfl) (by kernel_rfl) (by decide) (fun x => ⟨n, w91 (f91 n) n x⟩)
theorem ok91 (n : Nat) : Cal.Ok Try.prog ⟨91, F91.ps, F91.rs, F91.fr, fun a => f91 n a.1 a.2.1 a.2.2.1⟩ := (okr91 n)
-- tranship/transhipref04.Lift
def o32_0 (n : Nat) (k1 : Int → Int → Tm → Int → Int → Int → Int → Option Tm) (a0 : Tm) (a1 : Int) (a2 : Int) : Option Tm :=
  (f90 n a0).bind fun x1 =>
  ifB (!x1) (
    some (Tm.mk (0 : Int) (0 : Int) (0 : Int) (0 : Int) ([] : List Tm))) (
    ifB (decide (a1 < (0 : Int))) (
      some (Tm.mk (0 : Int) (0 : Int) (0 : Int) (0 : Int) ([] : List Tm))) (
      ifB (decide (a2 < (0 : Int))) (
        some (Tm.mk (0 : Int) (0 : Int) (0 : Int) (0 : Int) ([] : List Tm))) (
        k1 a1 a2 a0 (0 : Int) (0 : Int) (0 : Int) (0 : Int))))
def o32_1 (n : Nat) (t1 : Int) (t2 : Int) (t3 : Tm) (t6_0 : Int) (t6_1 : Int) (t6_2 : Int) (t6_3 : Int) : Option Tm :=
  (f91 n t3 t1 t2).bind fun x2 =>
  ifB (!x2.2) (
    some (Tm.mk (0 : Int) (0 : Int) (0 : Int) (0 : Int) ([] : List Tm))) (
    some x2.1)
def c32_1 (n : Nat) (t1 : Int) (t2 : Int) (t3 : Tm) (t6_0 : Int) (t6_1 : Int) (t6_2 : Int) (t6_3 : Int) : Option Tm :=
  o32_1 n t1 t2 t3 t6_0 t6_1 t6_2 t6_3
def f32 (n : Nat) (a0 : Tm) (a1 : Int) (a2 : Int) : Option Tm := o32_0 n (c32_1 n) a0 a1 a2
def an32 : An := (.n none [] 0 .z (.n (some 1) [(1, .one .c), (2, .one .c), (3, .ps 0 .tm false), (6, .p 1 [.c, .c, .c, .c, .k])] 2 .z .z))
def F32 : Fn := { f := 32, a := an32, vars := [.cell 6 24], ps := [.st .tm, .sc .int, .sc .int], rs := [.st .tm], own := false, fr := true, nt := 32, D := 3, loops := [] }
def cs32 (n : Nat) : List Cal := [⟨90, [.st .tm], [.sc .bool], true, fun a => f90 n a.1⟩, ⟨91, [.st .tm, .sc .int, .sc .int], [.st .tm, .sc .bool], true, fun a => f91 n a.1 a.2.1 a.2.2.1⟩]
def st32_1 (t1 : Int) (t2 : Int) (t3 : Tm) (t6_0 : Int) (t6_1 : Int) (t6_2 : Int) (t6_3 : Int) : SS := ⟨[(1, .v (.one (.c (.int t1) true))), (2, .v (.one (.c (.int t2) true))), (3, .v (.one (.ptr 0 0))), (6, .v (.one (.ptr 1 0)))], [(0, some (.bst .tm t3 false)), (1, some (.box [.c (.int t6_0) true, .c (.int t6_1) true, .c (.int t6_2) true, .c (.int t6_3) true, .nils]))], 2⟩
theorem p32_0 (n : Nat) (lab : Nat → SS → Option (RT.den F32.rs)) (x : PTs.den F32.ps) : F32.body (bodyOf Try.f32) tabR tyR true (cs32 n) lab x = o32_0 n (fun t1 t2 t3 t6_0 t6_1 t6_2 t6_3 => lab 1 (st32_1 t1 t2 t3 t6_0 t6_1 t6_2 t6_3)) x.1 x.2.1 x.2.2.1 := by kernel_rfl
theorem p32_1 (n : Nat) (lab : Nat → SS → Option (RT.den F32.rs)) (t1 : Int) (t2 : Int) (t3 : Tm) (t6_0 : Int) (t6_1 : Int) (t6_2 : Int) (t6_3 : Int) : F32.at (bodyOf Try.f32) tabR tyR true (cs32 n) lab 1 (st32_1 t1 t2 t3 t6_0 t6_1 t6_2 t6_3) = o32_1 n t1 t2 t3 t6_0 t6_1 t6_2 t6_3 := by kernel_rfl
theorem n32_1 (n : Nat) (rec : Nat → SS → Option (RT.den F32.rs)) (d : Nat) (t1 : Int) (t2 : Int) (t3 : Tm) (t6_0 : Int) (t6_1 : Int) (t6_2 : Int) (t6_3 : Int) : F32.labD (bodyOf Try.f32) tabR tyR true (cs32 n) rec (d + 1) 1 (st32_1 t1 t2 t3 t6_0 t6_1 t6_2 t6_3) = c32_1 n t1 t2 t3 t6_0 t6_1 t6_2 t6_3 := by
  show F32.labD (bodyOf Try.f32) tabR tyR true (cs32 n) rec (d + 1) 1 _ = _
  rw [Fn.labD_succ, p32_1]
  rfl
theorem w32 (n : Nat) (x : PTs.den F32.ps) : F32.body (bodyOf Try.f32) tabR tyR true (cs32 n) (F32.labX (bodyOf Try.f32) tabR tyR true (cs32 n) (F32.labM (bodyOf Try.f32) tabR tyR true (cs32 n) 0) F32.D) x = o32_0 n (c32_1 n) x.1 x.2.1 x.2.2.1 := by
  have e1 : ∀ t1 t2 t3 t6_0 t6_1 t6_2 t6_3, F32.labX (bodyOf Try.f32) tabR tyR true (cs32 n) (F32.labM (bodyOf Try.f32) tabR tyR true (cs32 n) 0) 3 1 (st32_1 t1 t2 t3 t6_0 t6_1 t6_2 t6_3) = c32_1 n t1 t2 t3 t6_0 t6_1 t6_2 t6_3 := fun t1 t2 t3 t6_0 t6_1 t6_2 t6_3 => (Fn.labX_step _ _ _ _ _ _ _ _ _ _ (by kernel_rfl)).trans (n32_1 n (F32.labM (bodyOf Try.f32) tabR tyR true (cs32 n) 0) 2 t1 t2 t3 t6_0 t6_1 t6_2 t6_3)
  show F32.body (bodyOf Try.f32) tabR tyR true (cs32 n) (F32.labX (bodyOf Try.f32) tabR tyR true (cs32 n) (F32.labM (bodyOf Try.f32) tabR tyR true (cs32 n) 0) 3) x = _
  rw [p32_0]
  simp only [e1]
  try rfl
theorem call32 : Callable Try.prog 32 := callable_of Try.func32 (by kernel_rfl) (by kernel_rfl)
theorem ok32 (n : Nat) : Cal.Ok Try.prog ⟨32, F32.ps, F32.rs, F32.fr, fun a => f32 n a.1 a.2.1 a.2.2.1⟩ :=
  cal_of_fn F32 (code := bodyOf Try.f32) Try.func32 (by kernel_rfl) (by kernel_rfl) call32 htabR (cs := cs32 n) (fun c hc => by
      simp only [cs32, List.mem_cons, List.not_mem_nil, or_false] at hc
      rcases hc with rfl | rfl
      · exact ok90 n
      · exact ok91 n) (fun _ => mixed) (by kernel_rfl) (by kernel_rfl) (by decide) (fun x => ⟨0, w32 n x⟩)
-- tranship/lift.Lift
def o33_0 (n : Nat) (k1 : Int → Int → Tm → Int → Int → Int → Int → Option Tm) (a0 : Tm) (a1 : Int) (a2 : Int) : Option Tm :=
  ifB (decide (a1 < (0 : Int))) (
    some (Tm.mk (0 : Int) (0 : Int) (0 : Int) (0 : Int) ([] : List Tm))) (
    ifB (decide (a2 < (0 : Int))) (
      some (Tm.mk (0 : Int) (0 : Int) (0 : Int) (0 : Int) ([] : List Tm))) (
      (f87 n a0).bind fun x1 =>
      ifB (!x1) (
        some (Tm.mk (0 : Int) (0 : Int) (0 : Int) (0 : Int) ([] : List Tm))) (
        k1 a1 a2 a0 (0 : Int) (0 : Int) (0 : Int) (0 : Int))))
def o33_1 (n : Nat) (t1 : Int) (t2 : Int) (t3 : Tm) (t6_0 : Int) (t6_1 : Int) (t6_2 : Int) (t6_3 : Int) : Option Tm :=
  (f92 n t3 t1 (min t2 (2147483648 : Int))).bind fun x2 =>
  ifB (!x2.2) (
    some (Tm.mk (0 : Int) (0 : Int) (0 : Int) (0 : Int) ([] : List Tm))) (
    some x2.1)
def c33_1 (n : Nat) (t1 : Int) (t2 : Int) (t3 : Tm) (t6_0 : Int) (t6_1 : Int) (t6_2 : Int) (t6_3 : Int) : Option Tm :=
  o33_1 n t1 t2 t3 t6_0 t6_1 t6_2 t6_3
def f33 (n : Nat) (a0 : Tm) (a1 : Int) (a2 : Int) : Option Tm := o33_0 n (c33_1 n) a0 a1 a2
def an33 : An := (.n none [] 0 .z (.n (some 1) [(1, .one .c), (2, .one .c), (3, .ps 0 .tm false), (6, .p 1 [.c, .c, .c, .c, .k])] 2 .z .z))
def F33 : Fn := { f := 33, a := an33, vars := [.cell 6 24], ps := [.st .tm, .sc .int, .sc .int], rs := [.st .tm], own := false, fr := true, nt := 33, D := 3, loops := [] }
def cs33 (n : Nat) : List Cal := [⟨87, [.st .tm], [.sc .bool], true, fun a => f87 n a.1⟩, ⟨92, [.st .tm, .sc .int, .sc .int], [.st .tm, .sc .bool], true, fun a => f92 n a.1 a.2.1 a.2.2.1⟩]
def st33_1 (t1 : Int) (t2 : Int) (t3 : Tm) (t6_0 : Int) (t6_1 : Int) (t6_2 : Int) (t6_3 : Int) : SS := ⟨[(1, .v (.one (.c (.int t1) true))), (2, .v (.one (.c (.int t2) true))), (3, .v (.one (.ptr 0 0))), (6, .v (.one (.ptr 1 0)))], [(0, some (.bst .tm t3 false)), (1, some (.box [.c (.int t6_0) true, .c (.int t6_1) true, .c (.int t6_2) true, .c (.int t6_3) true, .nils]))], 2⟩
theorem p33_0 (n : Nat) (lab : Nat → SS → Option (RT.den F33.rs)) (x : PTs.den F33.ps) : F33.body (bodyOf Try.f33) tabR tyR true (cs33 n) lab x = o33_0 n (fun t1 t2 t3 t6_0 t6_1 t6_2 t6_3 => lab 1 (st33_1 t1 t2 t3 t6_0 t6_1 t6_2 t6_3)) x.1 x.2.1 x.2.2.1 := by kernel_rfl
theorem p33_1 (n : Nat) (lab : Nat → SS → Option (RT.den F33.rs)) (t1 : Int) (t2 : Int) (t3 : Tm) (t6_0 : Int) (t6_1 : Int) (t6_2 : Int) (t6_3 : Int) : F33.at (bodyOf Try.f33) tabR tyR true (cs33 n) lab 1 (st33_1 t1 t2 t3 t6_0 t6_1 t6_2 t6_3) = o33_1 n t1 t2 t3 t6_0 t6_1 t6_2 t6_3 := by kernel_rfl
theorem n33_1 (n : Nat) (rec : Nat → SS → Option (RT.den F33.rs)) (d : Nat) (t1 : Int) (t2 : Int) (t3 : Tm) (t6_0 : Int) (t6_1 : Int) (t6_2 : Int) (t6_3 : Int) : F33.labD (bodyOf Try.f33) tabR tyR true (cs33 n) rec (d + 1) 1 (st33_1 t1 t2 t3 t6_0 t6_1 t6_2 t6_3) = c33_1 n t1 t2 t3 t6_0 t6_1 t6_2 t6_3 := by
  show F33.labD (bodyOf Try.f33) tabR tyR true (cs33 n) rec (d + 1) 1 _ = _
  rw [Fn.labD_succ, p33_1]
  rfl
theorem w33 (n : Nat) (x : PTs.den F33.ps) : F33.body (bodyOf Try.f33) tabR tyR true (cs33 n) (F33.labX (bodyOf Try.f33) tabR tyR true (cs33 n) (F33.labM (bodyOf Try.f33) tabR tyR true (cs33 n) 0) F33.D) x = o33_0 n (c33_1 n) x.1 x.2.1 x.2.2.1 := by
  have e1 : ∀ t1 t2 t3 t6_0 t6_1 t6_2 t6_3, F33.labX (bodyOf Try.f33) tabR tyR true (cs33 n) (F33.labM (bodyOf Try.f33) tabR tyR true (cs33 n) 0) 3 1 (st33_1 t1 t2 t3 t6_0 t6_1 t6_2 t6_3) = c33_1 n t1 t2 t3 t6_0 t6_1 t6_2 t6_3 := fun t1 t2 t3 t6_0 t6_1 t6_2 t6_3 => (Fn.labX_step _ _ _ _ _ _ _ _ _ _ (by kernel_rfl)).trans (n33_1 n (F33.labM (bodyOf Try.f33) tabR tyR true (cs33 n) 0) 2 t1 t2 t3 t6_0 t6_1 t6_2 t6_3)
  show F33.body (bodyOf Try.f33) tabR tyR true (cs33 n) (F33.labX (bodyOf Try.f33) tabR tyR true (cs33 n) (F33.labM (bodyOf Try.f33) tabR tyR true (cs33 n) 0) 3) x = _
  rw [p33_0]
  simp only [e1]
  try rfl
theorem call33 : Callable Try.prog 33 := callable_of Try.func33 (by kernel_rfl) (by kernel_rfl)
theorem ok33 (n : Nat) : Cal.Ok Try.prog ⟨33, F33.ps, F33.rs, F33.fr, fun a => f33 n a.1 a.2.1 a.2.2.1⟩ :=
  cal_of_fn F33 (code := bodyOf Try.f33) Try.func33 (by kernel_rfl) (by kernel_rfl) call33 htabR (cs := cs33 n) (fun c hc => by
      simp only [cs33, List.mem_cons, List.not_mem_nil, or_false] at hc
      rcases hc with rfl | rfl
      · exact ok87 n
      · exact ok92 n) (fun _ => mixed) (by kernel_rfl) (by kernel_rfl) (by decide) (fun x => ⟨0, w33 n x⟩)
-- tranship/lift.rename
-- tranship/lift.Rename
-- tranship/transhipref04.may
-- tranship/transhipref04.raised
-- tranship/transhipref04.plainly
-- tranship/transhipref04.put
-- tranship/transhipref04.Put
-- tranship/subst.open
-- (*tranship/subst.putting).at
-- (*tranship/subst.putting).walk
-- tranship/subst.put
-- tranship/subst.Put
end Go.Proofs.Ytcaahmielncmpaa
