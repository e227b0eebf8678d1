/-
  What lifting, stripping, putting and erasing compute, as plain functions.
-/
import Derived.Test.YtcaahmielncmpaaGenK
set_option linter.unusedSimpArgs false
set_option linter.unusedVariables false
namespace Go.Proofs.Ytcaahmielncmpaa
open Go Go.RowKit
set_option maxRecDepth 100000
-- tranship/transhipref04.erase
-- tranship/transhipref04.Erase
-- tranship/erase.erase
-- tranship/erase.Erase
-- tranship/erase.count
-- tranship/erase.Count
-- tranship/erase.Related
-- tranship/transhipref04.strip
-- tranship/transhipref04.Strip
-- tranship/strip.strip
def o88_0 (s88 : Tm → Option Tm) (n : Nat) (k1 : Tm → Int → Int → Int → Int → Int → Int → Option Tm) (a0 : Tm) : Option Tm :=
  ifB (decide (a0.kind = (3 : Int))) (
    k1 a0 (0 : Int) (0 : Int) (0 : Int) (0 : Int) (13 : Int) (0 : Int)) (
    ifB (decide (a0.kind = (4 : Int))) (
      atI a0.kids (0 : Int) fun x1 =>
      (s88 x1).bind fun x2 =>
      atI a0.kids (2 : Int) fun x3 =>
      (s88 x3).bind fun x4 =>
      (f127 (14 : Int) (0 : Int) (0 : Int) (0 : Int) [(Tm.mk x2.kind x2.i x2.j x2.n x2.kids), (Tm.mk x4.kind x4.i x4.j x4.n x4.kids)]).bind fun x5 =>
      some x5) (
      ifB (decide (a0.kind = (5 : Int))) (
        k1 a0 (0 : Int) (0 : Int) (0 : Int) (0 : Int) (15 : Int) (2 : Int)) (
        ifB (decide (a0.kind = (6 : Int))) (
          k1 a0 (0 : Int) (0 : Int) (0 : Int) (0 : Int) (16 : Int) (0 : Int)) (
          ifB (decide (a0.kind = (7 : Int))) (
            k1 a0 (0 : Int) (0 : Int) (0 : Int) (0 : Int) (17 : Int) (0 : Int)) (
            ifB (decide (a0.kind = (8 : Int))) (
              k1 a0 (0 : Int) (0 : Int) (0 : Int) (0 : Int) (18 : Int) (2 : Int)) (
              ifB (decide (a0.kind = (9 : Int))) (
                k1 a0 (0 : Int) (0 : Int) (0 : Int) (0 : Int) (19 : Int) (2 : Int)) (
                ifB (decide (a0.kind = (10 : Int))) (
                  k1 a0 (0 : Int) (0 : Int) (0 : Int) (0 : Int) (20 : Int) (0 : Int)) (
                  ifB (decide (a0.kind = (11 : Int))) (
                    k1 a0 (0 : Int) (0 : Int) (0 : Int) (0 : Int) (21 : Int) (0 : Int)) (
                    ifB (decide (a0.kind = (12 : Int))) (
                      atI a0.kids (0 : Int) fun x6 =>
                      (s88 x6).bind fun x7 =>
                      atI a0.kids (1 : Int) fun x8 =>
                      (s88 x8).bind fun x9 =>
                      atI a0.kids (2 : Int) fun x10 =>
                      (f102 n x10).bind fun x11 =>
                      atI a0.kids (3 : Int) fun x12 =>
                      (s88 x12).bind fun x13 =>
                      (f127 (23 : Int) a0.i (0 : Int) (5 : Int) [(Tm.mk x7.kind x7.i x7.j x7.n x7.kids), (Tm.mk x9.kind x9.i x9.j x9.n x9.kids), (Tm.mk x11.kind x11.i x11.j x11.n x11.kids), (Tm.mk x13.kind x13.i x13.j x13.n x13.kids)]).bind fun x14 =>
                      some x14) (
                      (f102 n a0).bind fun x15 =>
                      some x15))))))))))
def o88_1 (s88 : Tm → Option Tm) (n : Nat) (k2 : Int → Int → Int → Int → Int → Int → Int → Int → (List Tm) → (List Tm) → Int → Int → Option Tm) (t1 : Tm) (t2_0 : Int) (t2_1 : Int) (t2_2 : Int) (t2_3 : Int) (t3 : Int) (t4 : Int) : Option Tm :=
  ckI ((t1.kids.length : Int) - t4) <|
  ckB (decide (0 ≤ (0 : Int)) && (decide ((0 : Int) ≤ ((t1.kids.length : Int) - t4)) && decide ((56 : Nat) * ((t1.kids.length : Int) - t4) ≤ 281474976710656))) <|
  ckB (decide (0 ≤ t4) && (decide (t4 ≤ (t1.kids.length : Int)) && decide ((t1.kids.length : Int) ≤ t1.kids.length))) <|
  k2 t2_0 t2_1 t2_2 t2_3 t3 (0 : Int) (0 : Int) (0 : Int) (List.replicate (0 : Int).toNat (Tm.mk (0 : Int) (0 : Int) (0 : Int) (0 : Int) ([] : List Tm))) ((t1.kids.take (t1.kids.length : Int).toNat).drop t4.toNat) (((t1.kids.take (t1.kids.length : Int).toNat).drop t4.toNat).length : Int) (0 : Int)
def o88_2 (s88 : Tm → Option Tm) (n : Nat) (k2 : Int → Int → Int → Int → Int → Int → Int → Int → (List Tm) → (List Tm) → Int → Int → Option Tm) (t2_0 : Int) (t2_1 : Int) (t2_2 : Int) (t2_3 : Int) (t5_0 : Int) (t5_1 : Int) (t5_2 : Int) (t5_3 : Int) (t5_4 : List Tm) (t79 : List Tm) (t80 : Int) (t81 : Int) : Option Tm :=
  ifB (decide (t81 < t80)) (
    atI t79 t81 fun x16 =>
    (s88 x16).bind fun x17 =>
    ckB (decide ((t5_4.length + [(Tm.mk x17.kind x17.i x17.j x17.n x17.kids)].length) * 56 ≤ 140737488355328) && decide (t5_4.length + [(Tm.mk x17.kind x17.i x17.j x17.n x17.kids)].length ≤ 9223372036854775807)) <|
    ckI (t81 + (1 : Int)) <|
    k2 t2_0 t2_1 t2_2 t2_3 t5_0 t5_1 t5_2 t5_3 (t5_4 ++ [(Tm.mk x17.kind x17.i x17.j x17.n x17.kids)]) t79 t80 (t81 + (1 : Int))) (
    some (Tm.mk t5_0 t5_1 t5_2 t5_3 t5_4))
def c88_1 (s88 : Tm → Option Tm) (n : Nat) (k2 : Int → Int → Int → Int → Int → Int → Int → Int → (List Tm) → (List Tm) → Int → Int → Option Tm) (t1 : Tm) (t2_0 : Int) (t2_1 : Int) (t2_2 : Int) (t2_3 : Int) (t3 : Int) (t4 : Int) : Option Tm :=
  o88_1 s88 n k2 t1 t2_0 t2_1 t2_2 t2_3 t3 t4
def l88_2 (s88 : Tm → Option Tm) (n : Nat) : Nat → Int → Int → Int → Int → Int → Int → Int → Int → (List Tm) → (List Tm) → Int → Int → Option Tm
  | 0, _, _, _, _, _, _, _, _, _, _, _, _ => none
  | m + 1, t2_0, t2_1, t2_2, t2_3, t5_0, t5_1, t5_2, t5_3, t5_4, t79, t80, t81 => o88_2 s88 n (l88_2 s88 n m) t2_0 t2_1 t2_2 t2_3 t5_0 t5_1 t5_2 t5_3 t5_4 t79 t80 t81
def f88 : Nat → Tm → Option Tm
  | 0, _ => none
  | n + 1, a0 => o88_0 (f88 n) n (c88_1 (f88 n) n (l88_2 (f88 n) n n)) a0
def an88 : An := (.n none [] 0 .z (.n none [] 0 .z (.n (some 1) [(1, .ps 0 .tm false), (2, .p 1 [.c, .c, .c, .c, .k]), (3, .one .c), (4, .one .c)] 2 .z (.n none [] 0 .z (.n none [] 0 (.n none [] 0 .z (.n none [] 0 (.n (some 2) [(2, .p 0 [.c, .c, .c, .c, .k]), (5, .p 1 [.c, .c, .c, .c, .r 2 24 .tm true]), (79, .one (.d .tm false)), (80, .one .c), (81, .one .c)] 3 .z .z) .z)) .z)))))
def F88 : Fn := { f := 88, a := an88, vars := [.cell 2 24], ps := [.st .tm], rs := [.st .tm], own := false, fr := true, nt := 94, D := 4, loops := [2] }
def cs88 (s88 : Tm → Option Tm) (n : Nat) : List Cal := [⟨88, [.st .tm], [.st .tm], true, fun a => s88 a.1⟩, ⟨102, [.st .tm], [.st .tm], true, fun a => f102 n a.1⟩, ⟨127, [.sc .int, .sc .int, .sc .int, .sc .int, .sl .tm], [.pst .tm], true, fun a => f127 a.1 a.2.1 a.2.2.1 a.2.2.2.1 a.2.2.2.2.1⟩]
def st88_1 (t1 : Tm) (t2_0 : Int) (t2_1 : Int) (t2_2 : Int) (t2_3 : Int) (t3 : Int) (t4 : Int) : SS := ⟨[(1, .v (.one (.ptr 0 0))), (2, .v (.one (.ptr 1 0))), (3, .v (.one (.c (.int t3) true))), (4, .v (.one (.c (.int t4) true)))], [(0, some (.bst .tm t1 false)), (1, some (.box [.c (.int t2_0) true, .c (.int t2_1) true, .c (.int t2_2) true, .c (.int t2_3) true, .nils]))], 2⟩
def st88_2 (t2_0 : Int) (t2_1 : Int) (t2_2 : Int) (t2_3 : Int) (t5_0 : Int) (t5_1 : Int) (t5_2 : Int) (t5_3 : Int) (t5_4 : List Tm) (t79 : List Tm) (t80 : Int) (t81 : Int) : SS := ⟨[(2, .v (.one (.ptr 0 0))), (5, .v (.one (.ptr 1 0))), (79, .v (.one (.c (.sl .tm t79) false))), (80, .v (.one (.c (.int t80) true))), (81, .v (.one (.c (.int t81) true)))], [(0, some (.box [.c (.int t2_0) true, .c (.int t2_1) true, .c (.int t2_2) true, .c (.int t2_3) true, .nils])), (1, some (.box [.c (.int t5_0) true, .c (.int t5_1) true, .c (.int t5_2) true, .c (.int t5_3) true, .arr 2])), (2, some (.row 24 .tm t5_4 true))], 3⟩
theorem p88_0 (s88 : Tm → Option Tm) (n : Nat) (lab : Nat → SS → Option (RT.den F88.rs)) (x : PTs.den F88.ps) : F88.body (bodyOf Try.f88) tabR tyR true (cs88 s88 n) lab x = o88_0 s88 n (fun t1 t2_0 t2_1 t2_2 t2_3 t3 t4 => lab 1 (st88_1 t1 t2_0 t2_1 t2_2 t2_3 t3 t4)) x.1 := by kernel_rfl
theorem p88_1 (s88 : Tm → Option Tm) (n : Nat) (lab : Nat → SS → Option (RT.den F88.rs)) (t1 : Tm) (t2_0 : Int) (t2_1 : Int) (t2_2 : Int) (t2_3 : Int) (t3 : Int) (t4 : Int) : F88.at (bodyOf Try.f88) tabR tyR true (cs88 s88 n) lab 1 (st88_1 t1 t2_0 t2_1 t2_2 t2_3 t3 t4) = o88_1 s88 n (fun t2_0 t2_1 t2_2 t2_3 t5_0 t5_1 t5_2 t5_3 t5_4 t79 t80 t81 => lab 2 (st88_2 t2_0 t2_1 t2_2 t2_3 t5_0 t5_1 t5_2 t5_3 t5_4 t79 t80 t81)) t1 t2_0 t2_1 t2_2 t2_3 t3 t4 := by kernel_rfl
theorem p88_2 (s88 : Tm → Option Tm) (n : Nat) (lab : Nat → SS → Option (RT.den F88.rs)) (t2_0 : Int) (t2_1 : Int) (t2_2 : Int) (t2_3 : Int) (t5_0 : Int) (t5_1 : Int) (t5_2 : Int) (t5_3 : Int) (t5_4 : List Tm) (t79 : List Tm) (t80 : Int) (t81 : Int) : F88.at (bodyOf Try.f88) tabR tyR true (cs88 s88 n) lab 2 (st88_2 t2_0 t2_1 t2_2 t2_3 t5_0 t5_1 t5_2 t5_3 t5_4 t79 t80 t81) = o88_2 s88 n (fun t2_0 t2_1 t2_2 t2_3 t5_0 t5_1 t5_2 t5_3 t5_4 t79 t80 t81 => lab 2 (st88_2 t2_0 t2_1 t2_2 t2_3 t5_0 t5_1 t5_2 t5_3 t5_4 t79 t80 t81)) t2_0 t2_1 t2_2 t2_3 t5_0 t5_1 t5_2 t5_3 t5_4 t79 t80 t81 := by kernel_rfl
theorem n88_1 (s88 : Tm → Option Tm) (n : Nat) (rec : Nat → SS → Option (RT.den F88.rs)) (k2 : Int → Int → Int → Int → Int → Int → Int → Int → (List Tm) → (List Tm) → Int → Int → Option Tm) (h2 : ∀ t2_0 t2_1 t2_2 t2_3 t5_0 t5_1 t5_2 t5_3 t5_4 t79 t80 t81, rec 2 (st88_2 t2_0 t2_1 t2_2 t2_3 t5_0 t5_1 t5_2 t5_3 t5_4 t79 t80 t81) = k2 t2_0 t2_1 t2_2 t2_3 t5_0 t5_1 t5_2 t5_3 t5_4 t79 t80 t81) (d : Nat) (t1 : Tm) (t2_0 : Int) (t2_1 : Int) (t2_2 : Int) (t2_3 : Int) (t3 : Int) (t4 : Int) : F88.labD (bodyOf Try.f88) tabR tyR true (cs88 s88 n) rec (d + 1) 1 (st88_1 t1 t2_0 t2_1 t2_2 t2_3 t3 t4) = c88_1 s88 n k2 t1 t2_0 t2_1 t2_2 t2_3 t3 t4 := by
  have e2 : ∀ t2_0 t2_1 t2_2 t2_3 t5_0 t5_1 t5_2 t5_3 t5_4 t79 t80 t81, F88.labX (bodyOf Try.f88) tabR tyR true (cs88 s88 n) rec d 2 (st88_2 t2_0 t2_1 t2_2 t2_3 t5_0 t5_1 t5_2 t5_3 t5_4 t79 t80 t81) = k2 t2_0 t2_1 t2_2 t2_3 t5_0 t5_1 t5_2 t5_3 t5_4 t79 t80 t81 := fun t2_0 t2_1 t2_2 t2_3 t5_0 t5_1 t5_2 t5_3 t5_4 t79 t80 t81 => (Fn.labX_loop _ _ _ _ _ _ _ _ _ _ (by kernel_rfl)).trans (h2 t2_0 t2_1 t2_2 t2_3 t5_0 t5_1 t5_2 t5_3 t5_4 t79 t80 t81)
  show F88.labD (bodyOf Try.f88) tabR tyR true (cs88 s88 n) rec (d + 1) 1 _ = _
  rw [Fn.labD_succ, p88_1]
  simp only [e2]
  rfl
theorem m88_2 (s88 : Tm → Option Tm) (n : Nat) : ∀ m : Nat, (∀ t2_0 t2_1 t2_2 t2_3 t5_0 t5_1 t5_2 t5_3 t5_4 t79 t80 t81, F88.labM (bodyOf Try.f88) tabR tyR true (cs88 s88 n) m 2 (st88_2 t2_0 t2_1 t2_2 t2_3 t5_0 t5_1 t5_2 t5_3 t5_4 t79 t80 t81) = l88_2 s88 n m t2_0 t2_1 t2_2 t2_3 t5_0 t5_1 t5_2 t5_3 t5_4 t79 t80 t81) := by
  intro m
  induction m with
  | zero => exact fun _ _ _ _ _ _ _ _ _ _ _ _ => rfl
  | succ m ih =>
    intro t2_0 t2_1 t2_2 t2_3 t5_0 t5_1 t5_2 t5_3 t5_4 t79 t80 t81
    have e2 : ∀ t2_0 t2_1 t2_2 t2_3 t5_0 t5_1 t5_2 t5_3 t5_4 t79 t80 t81, F88.labX (bodyOf Try.f88) tabR tyR true (cs88 s88 n) (F88.labM (bodyOf Try.f88) tabR tyR true (cs88 s88 n) m) 3 2 (st88_2 t2_0 t2_1 t2_2 t2_3 t5_0 t5_1 t5_2 t5_3 t5_4 t79 t80 t81) = (l88_2 s88 n m) t2_0 t2_1 t2_2 t2_3 t5_0 t5_1 t5_2 t5_3 t5_4 t79 t80 t81 := fun t2_0 t2_1 t2_2 t2_3 t5_0 t5_1 t5_2 t5_3 t5_4 t79 t80 t81 => (Fn.labX_loop _ _ _ _ _ _ _ _ _ _ (by kernel_rfl)).trans (ih t2_0 t2_1 t2_2 t2_3 t5_0 t5_1 t5_2 t5_3 t5_4 t79 t80 t81)
    rw [Fn.labM_succ]
    show F88.labD (bodyOf Try.f88) tabR tyR true (cs88 s88 n) (F88.labM (bodyOf Try.f88) tabR tyR true (cs88 s88 n) m) (3 + 1) 2 _ = _
    rw [Fn.labD_succ, p88_2]
    simp only [e2]
    rfl
theorem w88 (s88 : Tm → Option Tm) (n : Nat) (x : PTs.den F88.ps) : F88.body (bodyOf Try.f88) tabR tyR true (cs88 s88 n) (F88.labX (bodyOf Try.f88) tabR tyR true (cs88 s88 n) (F88.labM (bodyOf Try.f88) tabR tyR true (cs88 s88 n) n) F88.D) x = o88_0 s88 n (c88_1 s88 n (l88_2 s88 n n)) x.1 := by
  have e1 : ∀ t1 t2_0 t2_1 t2_2 t2_3 t3 t4, F88.labX (bodyOf Try.f88) tabR tyR true (cs88 s88 n) (F88.labM (bodyOf Try.f88) tabR tyR true (cs88 s88 n) n) 4 1 (st88_1 t1 t2_0 t2_1 t2_2 t2_3 t3 t4) = c88_1 s88 n (l88_2 s88 n n) t1 t2_0 t2_1 t2_2 t2_3 t3 t4 := fun t1 t2_0 t2_1 t2_2 t2_3 t3 t4 => (Fn.labX_step _ _ _ _ _ _ _ _ _ _ (by kernel_rfl)).trans (n88_1 s88 n (F88.labM (bodyOf Try.f88) tabR tyR true (cs88 s88 n) n) (l88_2 s88 n n) (m88_2 s88 n n) 3 t1 t2_0 t2_1 t2_2 t2_3 t3 t4)
  show F88.body (bodyOf Try.f88) tabR tyR true (cs88 s88 n) (F88.labX (bodyOf Try.f88) tabR tyR true (cs88 s88 n) (F88.labM (bodyOf Try.f88) tabR tyR true (cs88 s88 n) n) 4) x = _
  rw [p88_0]
  simp only [e1]
  try rfl
theorem call88 : Callable Try.prog 88 := callable_of Try.func88 (by kernel_rfl) (by kernel_rfl)
theorem okr88 : ∀ n : Nat, Cal.Ok Try.prog ⟨88, F88.ps, F88.rs, F88.fr, fun a => f88 n a.1⟩
  | 0 => ⟨by kernel_rfl, fun a r h => by cases h⟩
  | n + 1 => cal_of_fn F88 (code := bodyOf Try.f88) Try.func88 (by kernel_rfl) (by kernel_rfl) call88 htabR (cs := cs88 (f88 n) n) (fun c hc => by
      simp only [cs88, List.mem_cons, List.not_mem_nil, or_false] at hc
      rcases hc with rfl | rfl | rfl
      · exact (okr88 n)
      · exact ok102 n
      · exact ok127p) (fun _ => mixed) (by kernel_rfl) (by kernel_rfl) (by decide) (fun x => ⟨n, w88 (f88 n) n x⟩)
theorem ok88 (n : Nat) : Cal.Ok Try.prog ⟨88, F88.ps, F88.rs, F88.fr, fun a => f88 n a.1⟩ := (okr88 n)
-- tranship/strip.Strip
def o30_0 (n : Nat) (a0 : Tm) : Option Tm :=
  (f87 n a0).bind fun x1 =>
  ifB (!x1) (
    some (Tm.mk (0 : Int) (0 : Int) (0 : Int) (0 : Int) ([] : List Tm))) (
    (f88 n a0).bind fun x2 =>
    some x2)
def f30 (n : Nat) (a0 : Tm) : Option Tm := o30_0 n a0
def an30 : An := .z
def F30 : Fn := { f := 30, a := an30, vars := [.cell 2 24], ps := [.st .tm], rs := [.st .tm], own := false, fr := true, nt := 9, D := 2, loops := [] }
def cs30 (n : Nat) : List Cal := [⟨87, [.st .tm], [.sc .bool], true, fun a => f87 n a.1⟩, ⟨88, [.st .tm], [.st .tm], true, fun a => f88 n a.1⟩]
theorem p30_0 (n : Nat) (lab : Nat → SS → Option (RT.den F30.rs)) (x : PTs.den F30.ps) : F30.body (bodyOf Try.f30) tabR tyR true (cs30 n) lab x = o30_0 n x.1 := by kernel_rfl
theorem w30 (n : Nat) (x : PTs.den F30.ps) : F30.body (bodyOf Try.f30) tabR tyR true (cs30 n) (F30.labX (bodyOf Try.f30) tabR tyR true (cs30 n) (F30.labM (bodyOf Try.f30) tabR tyR true (cs30 n) 0) F30.D) x = o30_0 n x.1 := by
  show F30.body (bodyOf Try.f30) tabR tyR true (cs30 n) (F30.labX (bodyOf Try.f30) tabR tyR true (cs30 n) (F30.labM (bodyOf Try.f30) tabR tyR true (cs30 n) 0) 2) x = _
  rw [p30_0]
theorem call30 : Callable Try.prog 30 := callable_of Try.func30 (by kernel_rfl) (by kernel_rfl)
theorem ok30 (n : Nat) : Cal.Ok Try.prog ⟨30, F30.ps, F30.rs, F30.fr, fun a => f30 n a.1⟩ :=
  cal_of_fn F30 (code := bodyOf Try.f30) Try.func30 (by kernel_rfl) (by kernel_rfl) call30 htabR (cs := cs30 n) (fun c hc => by
      simp only [cs30, List.mem_cons, List.not_mem_nil, or_false] at hc
      rcases hc with rfl | rfl
      · exact ok87 n
      · exact ok88 n) (fun _ => mixed) (by kernel_rfl) (by kernel_rfl) (by decide) (fun x => ⟨0, w30 n x⟩)
-- tranship/transhipref04.lift
-- tranship/transhipref04.Lift
-- tranship/lift.Lift
def o33_0 (n : Nat) (k1 : Int → Int → Tm → Int → Int → Int → Int → Option Tm) (a0 : Tm) (a1 : Int) (a2 : Int) : Option Tm :=
  ifB (decide (a1 < (0 : Int))) (
    some (Tm.mk (0 : Int) (0 : Int) (0 : Int) (0 : Int) ([] : List Tm))) (
    ifB (decide (a2 < (0 : Int))) (
      some (Tm.mk (0 : Int) (0 : Int) (0 : Int) (0 : Int) ([] : List Tm))) (
      (f87 n a0).bind fun x1 =>
      ifB (!x1) (
        some (Tm.mk (0 : Int) (0 : Int) (0 : Int) (0 : Int) ([] : List Tm))) (
        k1 a1 a2 a0 (0 : Int) (0 : Int) (0 : Int) (0 : Int))))
def o33_1 (n : Nat) (t1 : Int) (t2 : Int) (t3 : Tm) (t6_0 : Int) (t6_1 : Int) (t6_2 : Int) (t6_3 : Int) : Option Tm :=
  (f92 n t3 t1 (min t2 (2147483648 : Int))).bind fun x2 =>
  ifB (!x2.2) (
    some (Tm.mk (0 : Int) (0 : Int) (0 : Int) (0 : Int) ([] : List Tm))) (
    some x2.1)
def c33_1 (n : Nat) (t1 : Int) (t2 : Int) (t3 : Tm) (t6_0 : Int) (t6_1 : Int) (t6_2 : Int) (t6_3 : Int) : Option Tm :=
  o33_1 n t1 t2 t3 t6_0 t6_1 t6_2 t6_3
def f33 (n : Nat) (a0 : Tm) (a1 : Int) (a2 : Int) : Option Tm := o33_0 n (c33_1 n) a0 a1 a2
def an33 : An := (.n none [] 0 .z (.n (some 1) [(1, .one .c), (2, .one .c), (3, .ps 0 .tm false), (6, .p 1 [.c, .c, .c, .c, .k])] 2 .z .z))
def F33 : Fn := { f := 33, a := an33, vars := [.cell 6 24], ps := [.st .tm, .sc .int, .sc .int], rs := [.st .tm], own := false, fr := true, nt := 33, D := 3, loops := [] }
def cs33 (n : Nat) : List Cal := [⟨87, [.st .tm], [.sc .bool], true, fun a => f87 n a.1⟩, ⟨92, [.st .tm, .sc .int, .sc .int], [.st .tm, .sc .bool], true, fun a => f92 n a.1 a.2.1 a.2.2.1⟩]
def st33_1 (t1 : Int) (t2 : Int) (t3 : Tm) (t6_0 : Int) (t6_1 : Int) (t6_2 : Int) (t6_3 : Int) : SS := ⟨[(1, .v (.one (.c (.int t1) true))), (2, .v (.one (.c (.int t2) true))), (3, .v (.one (.ptr 0 0))), (6, .v (.one (.ptr 1 0)))], [(0, some (.bst .tm t3 false)), (1, some (.box [.c (.int t6_0) true, .c (.int t6_1) true, .c (.int t6_2) true, .c (.int t6_3) true, .nils]))], 2⟩
theorem p33_0 (n : Nat) (lab : Nat → SS → Option (RT.den F33.rs)) (x : PTs.den F33.ps) : F33.body (bodyOf Try.f33) tabR tyR true (cs33 n) lab x = o33_0 n (fun t1 t2 t3 t6_0 t6_1 t6_2 t6_3 => lab 1 (st33_1 t1 t2 t3 t6_0 t6_1 t6_2 t6_3)) x.1 x.2.1 x.2.2.1 := by kernel_rfl
theorem p33_1 (n : Nat) (lab : Nat → SS → Option (RT.den F33.rs)) (t1 : Int) (t2 : Int) (t3 : Tm) (t6_0 : Int) (t6_1 : Int) (t6_2 : Int) (t6_3 : Int) : F33.at (bodyOf Try.f33) tabR tyR true (cs33 n) lab 1 (st33_1 t1 t2 t3 t6_0 t6_1 t6_2 t6_3) = o33_1 n t1 t2 t3 t6_0 t6_1 t6_2 t6_3 := by kernel_rfl
theorem n33_1 (n : Nat) (rec : Nat → SS → Option (RT.den F33.rs)) (d : Nat) (t1 : Int) (t2 : Int) (t3 : Tm) (t6_0 : Int) (t6_1 : Int) (t6_2 : Int) (t6_3 : Int) : F33.labD (bodyOf Try.f33) tabR tyR true (cs33 n) rec (d + 1) 1 (st33_1 t1 t2 t3 t6_0 t6_1 t6_2 t6_3) = c33_1 n t1 t2 t3 t6_0 t6_1 t6_2 t6_3 := by
  show F33.labD (bodyOf Try.f33) tabR tyR true (cs33 n) rec (d + 1) 1 _ = _
  rw [Fn.labD_succ, p33_1]
  rfl
theorem w33 (n : Nat) (x : PTs.den F33.ps) : F33.body (bodyOf Try.f33) tabR tyR true (cs33 n) (F33.labX (bodyOf Try.f33) tabR tyR true (cs33 n) (F33.labM (bodyOf Try.f33) tabR tyR true (cs33 n) 0) F33.D) x = o33_0 n (c33_1 n) x.1 x.2.1 x.2.2.1 := by
  have e1 : ∀ t1 t2 t3 t6_0 t6_1 t6_2 t6_3, F33.labX (bodyOf Try.f33) tabR tyR true (cs33 n) (F33.labM (bodyOf Try.f33) tabR tyR true (cs33 n) 0) 3 1 (st33_1 t1 t2 t3 t6_0 t6_1 t6_2 t6_3) = c33_1 n t1 t2 t3 t6_0 t6_1 t6_2 t6_3 := fun t1 t2 t3 t6_0 t6_1 t6_2 t6_3 => (Fn.labX_step _ _ _ _ _ _ _ _ _ _ (by kernel_rfl)).trans (n33_1 n (F33.labM (bodyOf Try.f33) tabR tyR true (cs33 n) 0) 2 t1 t2 t3 t6_0 t6_1 t6_2 t6_3)
  show F33.body (bodyOf Try.f33) tabR tyR true (cs33 n) (F33.labX (bodyOf Try.f33) tabR tyR true (cs33 n) (F33.labM (bodyOf Try.f33) tabR tyR true (cs33 n) 0) 3) x = _
  rw [p33_0]
  simp only [e1]
  try rfl
theorem call33 : Callable Try.prog 33 := callable_of Try.func33 (by kernel_rfl) (by kernel_rfl)
theorem ok33 (n : Nat) : Cal.Ok Try.prog ⟨33, F33.ps, F33.rs, F33.fr, fun a => f33 n a.1 a.2.1 a.2.2.1⟩ :=
  cal_of_fn F33 (code := bodyOf Try.f33) Try.func33 (by kernel_rfl) (by kernel_rfl) call33 htabR (cs := cs33 n) (fun c hc => by
      simp only [cs33, List.mem_cons, List.not_mem_nil, or_false] at hc
      rcases hc with rfl | rfl
      · exact ok87 n
      · exact ok92 n) (fun _ => mixed) (by kernel_rfl) (by kernel_rfl) (by decide) (fun x => ⟨0, w33 n x⟩)
-- tranship/lift.rename
-- tranship/lift.Rename
-- tranship/transhipref04.may
-- tranship/transhipref04.raised
-- tranship/transhipref04.plainly
-- tranship/transhipref04.put
-- tranship/transhipref04.Put
-- tranship/subst.open
def o133_0 (a0 : Tm) : Option Bool :=
  ifB (decide (a0.kind = (1 : Int))) (
    some true) (
    ifB (decide (a0.kind = (2 : Int))) (
      some true) (
      some (decide ((13 : Int) ≤ a0.kind))))
def f133 (a0 : Tm) : Option Bool := o133_0 a0
def an133 : An := .z
def F133 : Fn := { f := 133, a := an133, vars := [.tmp 2], ps := [.st .tm], rs := [.sc .bool], own := false, fr := true, nt := 16, D := 2, loops := [] }
def cs133 : List Cal := []
theorem p133_0 (lab : Nat → SS → Option (RT.den F133.rs)) (x : PTs.den F133.ps) : F133.body (bodyOf Try.f133) tabR tyR true cs133 lab x = o133_0 x.1 := by kernel_rfl
theorem w133 (x : PTs.den F133.ps) : F133.body (bodyOf Try.f133) tabR tyR true cs133 (F133.labX (bodyOf Try.f133) tabR tyR true cs133 (F133.labM (bodyOf Try.f133) tabR tyR true cs133 0) F133.D) x = o133_0 x.1 := by
  show F133.body (bodyOf Try.f133) tabR tyR true cs133 (F133.labX (bodyOf Try.f133) tabR tyR true cs133 (F133.labM (bodyOf Try.f133) tabR tyR true cs133 0) 2) x = _
  rw [p133_0]
theorem call133 : Callable Try.prog 133 := callable_of Try.func133 (by kernel_rfl) (by kernel_rfl)
theorem ok133 : Cal.Ok Try.prog ⟨133, F133.ps, F133.rs, F133.fr, fun a => f133 a.1⟩ :=
  cal_of_fn F133 (code := bodyOf Try.f133) Try.func133 (by kernel_rfl) (by kernel_rfl) call133 htabR (cs := cs133) (fun c hc => by simp only [cs133, List.not_mem_nil] at hc) (fun _ => mixed) (by kernel_rfl) (by kernel_rfl) (by decide) (fun x => ⟨0, w133 x⟩)
-- (*tranship/subst.putting).at
def o153_0 (n : Nat) (a0 : List Tm × List Tm × Bool × Unit) (a1 : Int) (a2 : Int) (a3 : Bool) : Option (Tm × Bool) :=
  ifB (decide ((a0.1.length : Int) ≤ a1)) (
    ifB (!a0.2.2.1) (
      some ((Tm.mk (0 : Int) (0 : Int) (0 : Int) (0 : Int) ([] : List Tm)), false)) (
      ckI (a1 - (a0.1.length : Int)) <|
      ckI ((a1 - (a0.1.length : Int)) + a2) <|
      (f143 ((a1 - (a0.1.length : Int)) + a2)).bind fun x1 =>
      some (x1, true))) (
    ifB a3 (
      atI a0.2.1 a1 fun x2 =>
      (f92 n x2 a2 (0 : Int)).bind fun x3 =>
      some (x3.1, x3.2)) (
      atI a0.1 a1 fun x4 =>
      (f92 n x4 a2 (0 : Int)).bind fun x5 =>
      some (x5.1, x5.2)))
def f153 (n : Nat) (a0 : List Tm × List Tm × Bool × Unit) (a1 : Int) (a2 : Int) (a3 : Bool) : Option (Tm × Bool) := o153_0 n a0 a1 a2 a3
def an153 : An := .z
def F153 : Fn := { f := 153, a := an153, vars := [.cell 8 24, .tmp 9], ps := [.ro [(true, .tm), (true, .tm), (false, .bool)], .sc .int, .sc .int, .sc .bool], rs := [.st .tm, .sc .bool], own := false, fr := true, nt := 56, D := 2, loops := [] }
def cs153 (n : Nat) : List Cal := [⟨92, [.st .tm, .sc .int, .sc .int], [.st .tm, .sc .bool], true, fun a => f92 n a.1 a.2.1 a.2.2.1⟩, ⟨143, [.sc .int], [.st .tm], true, fun a => f143 a.1⟩]
theorem p153_0 (n : Nat) (lab : Nat → SS → Option (RT.den F153.rs)) (x : PTs.den F153.ps) : F153.body (bodyOf Try.f153) tabR tyR true (cs153 n) lab x = o153_0 n x.1 x.2.1 x.2.2.1 x.2.2.2.1 := by kernel_rfl
theorem w153 (n : Nat) (x : PTs.den F153.ps) : F153.body (bodyOf Try.f153) tabR tyR true (cs153 n) (F153.labX (bodyOf Try.f153) tabR tyR true (cs153 n) (F153.labM (bodyOf Try.f153) tabR tyR true (cs153 n) 0) F153.D) x = o153_0 n x.1 x.2.1 x.2.2.1 x.2.2.2.1 := by
  show F153.body (bodyOf Try.f153) tabR tyR true (cs153 n) (F153.labX (bodyOf Try.f153) tabR tyR true (cs153 n) (F153.labM (bodyOf Try.f153) tabR tyR true (cs153 n) 0) 2) x = _
  rw [p153_0]
theorem call153 : Callable Try.prog 153 := callable_of Try.func153 (by kernel_rfl) (by kernel_rfl)
theorem ok153 (n : Nat) : Cal.Ok Try.prog ⟨153, F153.ps, F153.rs, F153.fr, fun a => f153 n a.1 a.2.1 a.2.2.1 a.2.2.2.1⟩ :=
  cal_of_fn F153 (code := bodyOf Try.f153) Try.func153 (by kernel_rfl) (by kernel_rfl) call153 htabR (cs := cs153 n) (fun c hc => by
      simp only [cs153, List.mem_cons, List.not_mem_nil, or_false] at hc
      rcases hc with rfl | rfl
      · exact ok92 n
      · exact ok143) (fun _ => mixed) (by kernel_rfl) (by kernel_rfl) (by decide) (fun x => ⟨0, w153 n x⟩)
-- (*tranship/subst.putting).walk
def o134_0 (s134 : (List Tm × List Tm × Bool × Unit) → Tm → Int → Bool → Option (Tm × Bool)) (n : Nat) (k1 : (List Tm) → (List Tm) → Bool → Int → Bool → Tm → Int → Int → Int → Int → Bool → Option (Tm × Bool)) (a0 : List Tm × List Tm × Bool × Unit) (a1 : Tm) (a2 : Int) (a3 : Bool) : Option (Tm × Bool) :=
  ifB (decide (a1.kind = (2 : Int))) (
    k1 a0.1 a0.2.1 a0.2.2.1 a2 a3 a1 (0 : Int) (0 : Int) (0 : Int) (0 : Int) (decide (a2 ≤ a1.i))) (
    k1 a0.1 a0.2.1 a0.2.2.1 a2 a3 a1 (0 : Int) (0 : Int) (0 : Int) (0 : Int) false)
def o134_1 (s134 : (List Tm × List Tm × Bool × Unit) → Tm → Int → Bool → Option (Tm × Bool)) (n : Nat) (k2 : (List Tm) → (List Tm) → Bool → Int → Bool → Tm → Int → Int → Int → Int → (List Tm) → (List Tm) → Int → Int → Option (Tm × Bool)) (t0_0 : List Tm) (t0_1 : List Tm) (t0_2 : Bool) (t2 : Int) (t3 : Bool) (t5 : Tm) (t8_0 : Int) (t8_1 : Int) (t8_2 : Int) (t8_3 : Int) (t23 : Bool) : Option (Tm × Bool) :=
  ifB t23 (
    ckI (t5.i - t2) <|
    (f153 n (t0_0, t0_1, t0_2, ()) (t5.i - t2) t2 t3).bind fun x1 =>
    some (x1.1, x1.2)) (
    ifB (decide ((t5.kids.length : Int) = (0 : Int))) (
      some ((Tm.mk t5.kind t5.i t5.j t5.n ([] : List Tm)), true)) (
      ckB (decide (0 ≤ (t5.kids.length : Int)) && (decide ((t5.kids.length : Int) ≤ (t5.kids.length : Int)) && decide ((56 : Nat) * (t5.kids.length : Int) ≤ 281474976710656))) <|
      k2 t0_0 t0_1 t0_2 t2 t3 t5 t8_0 t8_1 t8_2 t8_3 (List.replicate (t5.kids.length : Int).toNat (Tm.mk (0 : Int) (0 : Int) (0 : Int) (0 : Int) ([] : List Tm))) t5.kids (t5.kids.length : Int) (0 : Int)))
def o134_2 (s134 : (List Tm × List Tm × Bool × Unit) → Tm → Int → Bool → Option (Tm × Bool)) (n : Nat) (k3 : (List Tm) → (List Tm) → Bool → Int → Bool → Tm → Int → Int → Int → Int → (List Tm) → Int → Tm → Bool → (List Tm) → Int → Int → Option (Tm × Bool)) (t0_0 : List Tm) (t0_1 : List Tm) (t0_2 : Bool) (t2 : Int) (t3 : Bool) (t5 : Tm) (t8_0 : Int) (t8_1 : Int) (t8_2 : Int) (t8_3 : Int) (t10 : List Tm) (t45 : List Tm) (t46 : Int) (t47 : Int) : Option (Tm × Bool) :=
  ifB (decide (t47 < t46)) (
    atI t45 t47 fun x2 =>
    (f129 t5.kind t47).bind fun x3 =>
    ckI (t2 + x3) <|
    ifB t3 (
      (s134 (t0_0, t0_1, t0_2, ()) x2 (t2 + x3) true).bind fun x4 =>
      k3 t0_0 t0_1 t0_2 t2 t3 t5 t8_0 t8_1 t8_2 t8_3 t10 t47 x4.1 x4.2 t45 t46 t47) (
      ifB (decide (t5.kind = (12 : Int))) (
        (s134 (t0_0, t0_1, t0_2, ()) x2 (t2 + x3) (decide (t47 = (2 : Int)))).bind fun x5 =>
        k3 t0_0 t0_1 t0_2 t2 t3 t5 t8_0 t8_1 t8_2 t8_3 t10 t47 x5.1 x5.2 t45 t46 t47) (
        (s134 (t0_0, t0_1, t0_2, ()) x2 (t2 + x3) false).bind fun x6 =>
        k3 t0_0 t0_1 t0_2 t2 t3 t5 t8_0 t8_1 t8_2 t8_3 t10 t47 x6.1 x6.2 t45 t46 t47))) (
    some ((Tm.mk t5.kind t5.i t5.j t5.n t10), true))
def o134_3 (s134 : (List Tm × List Tm × Bool × Unit) → Tm → Int → Bool → Option (Tm × Bool)) (n : Nat) (k2 : (List Tm) → (List Tm) → Bool → Int → Bool → Tm → Int → Int → Int → Int → (List Tm) → (List Tm) → Int → Int → Option (Tm × Bool)) (t0_0 : List Tm) (t0_1 : List Tm) (t0_2 : Bool) (t2 : Int) (t3 : Bool) (t5 : Tm) (t8_0 : Int) (t8_1 : Int) (t8_2 : Int) (t8_3 : Int) (t10 : List Tm) (t11 : Int) (t13 : Tm) (t14 : Bool) (t45 : List Tm) (t46 : Int) (t47 : Int) : Option (Tm × Bool) :=
  ifB (!t14) (
    some ((Tm.mk (0 : Int) (0 : Int) (0 : Int) (0 : Int) ([] : List Tm)), false)) (
    ckB (decide (0 ≤ t11) && decide (t11 < t10.length)) <|
    ckB (decide (t11.toNat < t10.length)) <|
    ckI (t47 + (1 : Int)) <|
    k2 t0_0 t0_1 t0_2 t2 t3 t5 t8_0 t8_1 t8_2 t8_3 (t10.set t11.toNat (Tm.mk t13.kind t13.i t13.j t13.n t13.kids)) t45 t46 (t47 + (1 : Int)))
def c134_1 (s134 : (List Tm × List Tm × Bool × Unit) → Tm → Int → Bool → Option (Tm × Bool)) (n : Nat) (k2 : (List Tm) → (List Tm) → Bool → Int → Bool → Tm → Int → Int → Int → Int → (List Tm) → (List Tm) → Int → Int → Option (Tm × Bool)) (t0_0 : List Tm) (t0_1 : List Tm) (t0_2 : Bool) (t2 : Int) (t3 : Bool) (t5 : Tm) (t8_0 : Int) (t8_1 : Int) (t8_2 : Int) (t8_3 : Int) (t23 : Bool) : Option (Tm × Bool) :=
  o134_1 s134 n k2 t0_0 t0_1 t0_2 t2 t3 t5 t8_0 t8_1 t8_2 t8_3 t23
def c134_3 (s134 : (List Tm × List Tm × Bool × Unit) → Tm → Int → Bool → Option (Tm × Bool)) (n : Nat) (k2 : (List Tm) → (List Tm) → Bool → Int → Bool → Tm → Int → Int → Int → Int → (List Tm) → (List Tm) → Int → Int → Option (Tm × Bool)) (t0_0 : List Tm) (t0_1 : List Tm) (t0_2 : Bool) (t2 : Int) (t3 : Bool) (t5 : Tm) (t8_0 : Int) (t8_1 : Int) (t8_2 : Int) (t8_3 : Int) (t10 : List Tm) (t11 : Int) (t13 : Tm) (t14 : Bool) (t45 : List Tm) (t46 : Int) (t47 : Int) : Option (Tm × Bool) :=
  o134_3 s134 n k2 t0_0 t0_1 t0_2 t2 t3 t5 t8_0 t8_1 t8_2 t8_3 t10 t11 t13 t14 t45 t46 t47
def l134_2 (s134 : (List Tm × List Tm × Bool × Unit) → Tm → Int → Bool → Option (Tm × Bool)) (n : Nat) : Nat → (List Tm) → (List Tm) → Bool → Int → Bool → Tm → Int → Int → Int → Int → (List Tm) → (List Tm) → Int → Int → Option (Tm × Bool)
  | 0, _, _, _, _, _, _, _, _, _, _, _, _, _, _ => none
  | m + 1, t0_0, t0_1, t0_2, t2, t3, t5, t8_0, t8_1, t8_2, t8_3, t10, t45, t46, t47 => o134_2 s134 n (c134_3 s134 n (l134_2 s134 n m)) t0_0 t0_1 t0_2 t2 t3 t5 t8_0 t8_1 t8_2 t8_3 t10 t45 t46 t47
def f134 : Nat → (List Tm × List Tm × Bool × Unit) → Tm → Int → Bool → Option (Tm × Bool)
  | 0, _, _, _, _ => none
  | n + 1, a0, a1, a2, a3 => o134_0 (f134 n) n (c134_1 (f134 n) n (l134_2 (f134 n) n n)) a0 a1 a2 a3
def an134 : An := (.n none [] 0 .z (.n none [] 0 (.n (some 1) [(0, .one .k), (2, .one .c), (3, .one .c), (5, .ps 0 .tm false), (8, .p 1 [.c, .c, .c, .c, .k]), (23, .one .c)] 2 .z .z) (.n none [] 0 .z (.n none [] 0 .z (.n none [] 0 (.n none [] 0 .z (.n none [] 0 (.n (some 2) [(0, .one .k), (2, .one .c), (3, .one .c), (5, .ps 0 .tm false), (8, .p 1 [.c, .c, .c, .c, .k]), (10, .one (.r 2 24 .tm true)), (45, .one (.d .tm false)), (46, .one .c), (47, .one .c)] 3 (.n none [] 0 .z (.n none [] 0 .z (.n none [] 0 (.n none [] 0 (.n none [] 0 .z (.n (some 3) [(0, .one .k), (2, .one .c), (3, .one .c), (5, .ps 0 .tm false), (8, .p 1 [.c, .c, .c, .c, .k]), (10, .one (.r 2 24 .tm true)), (11, .one .c), (13, .ps 3 .tm true), (14, .one .c), (45, .one (.d .tm false)), (46, .one .c), (47, .one .c)] 4 .z .z)) .z) .z))) .z) .z)) .z)))))
def F134 : Fn := { f := 134, a := an134, vars := [.cell 8 24, .tmp 9], ps := [.ro [(true, .tm), (true, .tm), (false, .bool)], .st .tm, .sc .int, .sc .bool], rs := [.st .tm, .sc .bool], own := false, fr := true, nt := 85, D := 5, loops := [2] }
def cs134 (s134 : (List Tm × List Tm × Bool × Unit) → Tm → Int → Bool → Option (Tm × Bool)) (n : Nat) : List Cal := [⟨129, [.sc .int, .sc .int], [.sc .int], true, fun a => f129 a.1 a.2.1⟩, ⟨134, [.ro [(true, .tm), (true, .tm), (false, .bool)], .st .tm, .sc .int, .sc .bool], [.st .tm, .sc .bool], true, fun a => s134 a.1 a.2.1 a.2.2.1 a.2.2.2.1⟩, ⟨153, [.ro [(true, .tm), (true, .tm), (false, .bool)], .sc .int, .sc .int, .sc .bool], [.st .tm, .sc .bool], true, fun a => f153 n a.1 a.2.1 a.2.2.1 a.2.2.2.1⟩]
def st134_1 (t0_0 : List Tm) (t0_1 : List Tm) (t0_2 : Bool) (t2 : Int) (t3 : Bool) (t5 : Tm) (t8_0 : Int) (t8_1 : Int) (t8_2 : Int) (t8_3 : Int) (t23 : Bool) : SS := ⟨[(0, .v (.one (.rc [.sl .tm t0_0, .sl .tm t0_1, .bool t0_2]))), (2, .v (.one (.c (.int t2) true))), (3, .v (.one (.c (.bool t3) true))), (5, .v (.one (.ptr 0 0))), (8, .v (.one (.ptr 1 0))), (23, .v (.one (.c (.bool t23) true)))], [(0, some (.bst .tm t5 false)), (1, some (.box [.c (.int t8_0) true, .c (.int t8_1) true, .c (.int t8_2) true, .c (.int t8_3) true, .nils]))], 2⟩
def st134_2 (t0_0 : List Tm) (t0_1 : List Tm) (t0_2 : Bool) (t2 : Int) (t3 : Bool) (t5 : Tm) (t8_0 : Int) (t8_1 : Int) (t8_2 : Int) (t8_3 : Int) (t10 : List Tm) (t45 : List Tm) (t46 : Int) (t47 : Int) : SS := ⟨[(0, .v (.one (.rc [.sl .tm t0_0, .sl .tm t0_1, .bool t0_2]))), (2, .v (.one (.c (.int t2) true))), (3, .v (.one (.c (.bool t3) true))), (5, .v (.one (.ptr 0 0))), (8, .v (.one (.ptr 1 0))), (10, .v (.one (.arr 2))), (45, .v (.one (.c (.sl .tm t45) false))), (46, .v (.one (.c (.int t46) true))), (47, .v (.one (.c (.int t47) true)))], [(0, some (.bst .tm t5 false)), (1, some (.box [.c (.int t8_0) true, .c (.int t8_1) true, .c (.int t8_2) true, .c (.int t8_3) true, .nils])), (2, some (.row 24 .tm t10 true))], 3⟩
def st134_3 (t0_0 : List Tm) (t0_1 : List Tm) (t0_2 : Bool) (t2 : Int) (t3 : Bool) (t5 : Tm) (t8_0 : Int) (t8_1 : Int) (t8_2 : Int) (t8_3 : Int) (t10 : List Tm) (t11 : Int) (t13 : Tm) (t14 : Bool) (t45 : List Tm) (t46 : Int) (t47 : Int) : SS := ⟨[(0, .v (.one (.rc [.sl .tm t0_0, .sl .tm t0_1, .bool t0_2]))), (2, .v (.one (.c (.int t2) true))), (3, .v (.one (.c (.bool t3) true))), (5, .v (.one (.ptr 0 0))), (8, .v (.one (.ptr 1 0))), (10, .v (.one (.arr 2))), (11, .v (.one (.c (.int t11) true))), (13, .v (.one (.ptr 3 0))), (14, .v (.one (.c (.bool t14) true))), (45, .v (.one (.c (.sl .tm t45) false))), (46, .v (.one (.c (.int t46) true))), (47, .v (.one (.c (.int t47) true)))], [(0, some (.bst .tm t5 false)), (1, some (.box [.c (.int t8_0) true, .c (.int t8_1) true, .c (.int t8_2) true, .c (.int t8_3) true, .nils])), (2, some (.row 24 .tm t10 true)), (3, some (.bst .tm t13 true))], 4⟩
theorem p134_0 (s134 : (List Tm × List Tm × Bool × Unit) → Tm → Int → Bool → Option (Tm × Bool)) (n : Nat) (lab : Nat → SS → Option (RT.den F134.rs)) (x : PTs.den F134.ps) : F134.body (bodyOf Try.f134) tabR tyR true (cs134 s134 n) lab x = o134_0 s134 n (fun t0_0 t0_1 t0_2 t2 t3 t5 t8_0 t8_1 t8_2 t8_3 t23 => lab 1 (st134_1 t0_0 t0_1 t0_2 t2 t3 t5 t8_0 t8_1 t8_2 t8_3 t23)) x.1 x.2.1 x.2.2.1 x.2.2.2.1 := by kernel_rfl
theorem p134_1 (s134 : (List Tm × List Tm × Bool × Unit) → Tm → Int → Bool → Option (Tm × Bool)) (n : Nat) (lab : Nat → SS → Option (RT.den F134.rs)) (t0_0 : List Tm) (t0_1 : List Tm) (t0_2 : Bool) (t2 : Int) (t3 : Bool) (t5 : Tm) (t8_0 : Int) (t8_1 : Int) (t8_2 : Int) (t8_3 : Int) (t23 : Bool) : F134.at (bodyOf Try.f134) tabR tyR true (cs134 s134 n) lab 1 (st134_1 t0_0 t0_1 t0_2 t2 t3 t5 t8_0 t8_1 t8_2 t8_3 t23) = o134_1 s134 n (fun t0_0 t0_1 t0_2 t2 t3 t5 t8_0 t8_1 t8_2 t8_3 t10 t45 t46 t47 => lab 2 (st134_2 t0_0 t0_1 t0_2 t2 t3 t5 t8_0 t8_1 t8_2 t8_3 t10 t45 t46 t47)) t0_0 t0_1 t0_2 t2 t3 t5 t8_0 t8_1 t8_2 t8_3 t23 := by kernel_rfl
theorem p134_2 (s134 : (List Tm × List Tm × Bool × Unit) → Tm → Int → Bool → Option (Tm × Bool)) (n : Nat) (lab : Nat → SS → Option (RT.den F134.rs)) (t0_0 : List Tm) (t0_1 : List Tm) (t0_2 : Bool) (t2 : Int) (t3 : Bool) (t5 : Tm) (t8_0 : Int) (t8_1 : Int) (t8_2 : Int) (t8_3 : Int) (t10 : List Tm) (t45 : List Tm) (t46 : Int) (t47 : Int) : F134.at (bodyOf Try.f134) tabR tyR true (cs134 s134 n) lab 2 (st134_2 t0_0 t0_1 t0_2 t2 t3 t5 t8_0 t8_1 t8_2 t8_3 t10 t45 t46 t47) = o134_2 s134 n (fun t0_0 t0_1 t0_2 t2 t3 t5 t8_0 t8_1 t8_2 t8_3 t10 t11 t13 t14 t45 t46 t47 => lab 3 (st134_3 t0_0 t0_1 t0_2 t2 t3 t5 t8_0 t8_1 t8_2 t8_3 t10 t11 t13 t14 t45 t46 t47)) t0_0 t0_1 t0_2 t2 t3 t5 t8_0 t8_1 t8_2 t8_3 t10 t45 t46 t47 := by kernel_rfl
theorem p134_3 (s134 : (List Tm × List Tm × Bool × Unit) → Tm → Int → Bool → Option (Tm × Bool)) (n : Nat) (lab : Nat → SS → Option (RT.den F134.rs)) (t0_0 : List Tm) (t0_1 : List Tm) (t0_2 : Bool) (t2 : Int) (t3 : Bool) (t5 : Tm) (t8_0 : Int) (t8_1 : Int) (t8_2 : Int) (t8_3 : Int) (t10 : List Tm) (t11 : Int) (t13 : Tm) (t14 : Bool) (t45 : List Tm) (t46 : Int) (t47 : Int) : F134.at (bodyOf Try.f134) tabR tyR true (cs134 s134 n) lab 3 (st134_3 t0_0 t0_1 t0_2 t2 t3 t5 t8_0 t8_1 t8_2 t8_3 t10 t11 t13 t14 t45 t46 t47) = o134_3 s134 n (fun t0_0 t0_1 t0_2 t2 t3 t5 t8_0 t8_1 t8_2 t8_3 t10 t45 t46 t47 => lab 2 (st134_2 t0_0 t0_1 t0_2 t2 t3 t5 t8_0 t8_1 t8_2 t8_3 t10 t45 t46 t47)) t0_0 t0_1 t0_2 t2 t3 t5 t8_0 t8_1 t8_2 t8_3 t10 t11 t13 t14 t45 t46 t47 := by kernel_rfl
theorem n134_1 (s134 : (List Tm × List Tm × Bool × Unit) → Tm → Int → Bool → Option (Tm × Bool)) (n : Nat) (rec : Nat → SS → Option (RT.den F134.rs)) (k2 : (List Tm) → (List Tm) → Bool → Int → Bool → Tm → Int → Int → Int → Int → (List Tm) → (List Tm) → Int → Int → Option (Tm × Bool)) (h2 : ∀ t0_0 t0_1 t0_2 t2 t3 t5 t8_0 t8_1 t8_2 t8_3 t10 t45 t46 t47, rec 2 (st134_2 t0_0 t0_1 t0_2 t2 t3 t5 t8_0 t8_1 t8_2 t8_3 t10 t45 t46 t47) = k2 t0_0 t0_1 t0_2 t2 t3 t5 t8_0 t8_1 t8_2 t8_3 t10 t45 t46 t47) (d : Nat) (t0_0 : List Tm) (t0_1 : List Tm) (t0_2 : Bool) (t2 : Int) (t3 : Bool) (t5 : Tm) (t8_0 : Int) (t8_1 : Int) (t8_2 : Int) (t8_3 : Int) (t23 : Bool) : F134.labD (bodyOf Try.f134) tabR tyR true (cs134 s134 n) rec (d + 1) 1 (st134_1 t0_0 t0_1 t0_2 t2 t3 t5 t8_0 t8_1 t8_2 t8_3 t23) = c134_1 s134 n k2 t0_0 t0_1 t0_2 t2 t3 t5 t8_0 t8_1 t8_2 t8_3 t23 := by
  have e2 : ∀ t0_0 t0_1 t0_2 t2 t3 t5 t8_0 t8_1 t8_2 t8_3 t10 t45 t46 t47, F134.labX (bodyOf Try.f134) tabR tyR true (cs134 s134 n) rec d 2 (st134_2 t0_0 t0_1 t0_2 t2 t3 t5 t8_0 t8_1 t8_2 t8_3 t10 t45 t46 t47) = k2 t0_0 t0_1 t0_2 t2 t3 t5 t8_0 t8_1 t8_2 t8_3 t10 t45 t46 t47 := fun t0_0 t0_1 t0_2 t2 t3 t5 t8_0 t8_1 t8_2 t8_3 t10 t45 t46 t47 => (Fn.labX_loop _ _ _ _ _ _ _ _ _ _ (by kernel_rfl)).trans (h2 t0_0 t0_1 t0_2 t2 t3 t5 t8_0 t8_1 t8_2 t8_3 t10 t45 t46 t47)
  show F134.labD (bodyOf Try.f134) tabR tyR true (cs134 s134 n) rec (d + 1) 1 _ = _
  rw [Fn.labD_succ, p134_1]
  simp only [e2]
  rfl
theorem n134_3 (s134 : (List Tm × List Tm × Bool × Unit) → Tm → Int → Bool → Option (Tm × Bool)) (n : Nat) (rec : Nat → SS → Option (RT.den F134.rs)) (k2 : (List Tm) → (List Tm) → Bool → Int → Bool → Tm → Int → Int → Int → Int → (List Tm) → (List Tm) → Int → Int → Option (Tm × Bool)) (h2 : ∀ t0_0 t0_1 t0_2 t2 t3 t5 t8_0 t8_1 t8_2 t8_3 t10 t45 t46 t47, rec 2 (st134_2 t0_0 t0_1 t0_2 t2 t3 t5 t8_0 t8_1 t8_2 t8_3 t10 t45 t46 t47) = k2 t0_0 t0_1 t0_2 t2 t3 t5 t8_0 t8_1 t8_2 t8_3 t10 t45 t46 t47) (d : Nat) (t0_0 : List Tm) (t0_1 : List Tm) (t0_2 : Bool) (t2 : Int) (t3 : Bool) (t5 : Tm) (t8_0 : Int) (t8_1 : Int) (t8_2 : Int) (t8_3 : Int) (t10 : List Tm) (t11 : Int) (t13 : Tm) (t14 : Bool) (t45 : List Tm) (t46 : Int) (t47 : Int) : F134.labD (bodyOf Try.f134) tabR tyR true (cs134 s134 n) rec (d + 1) 3 (st134_3 t0_0 t0_1 t0_2 t2 t3 t5 t8_0 t8_1 t8_2 t8_3 t10 t11 t13 t14 t45 t46 t47) = c134_3 s134 n k2 t0_0 t0_1 t0_2 t2 t3 t5 t8_0 t8_1 t8_2 t8_3 t10 t11 t13 t14 t45 t46 t47 := by
  have e2 : ∀ t0_0 t0_1 t0_2 t2 t3 t5 t8_0 t8_1 t8_2 t8_3 t10 t45 t46 t47, F134.labX (bodyOf Try.f134) tabR tyR true (cs134 s134 n) rec d 2 (st134_2 t0_0 t0_1 t0_2 t2 t3 t5 t8_0 t8_1 t8_2 t8_3 t10 t45 t46 t47) = k2 t0_0 t0_1 t0_2 t2 t3 t5 t8_0 t8_1 t8_2 t8_3 t10 t45 t46 t47 := fun t0_0 t0_1 t0_2 t2 t3 t5 t8_0 t8_1 t8_2 t8_3 t10 t45 t46 t47 => (Fn.labX_loop _ _ _ _ _ _ _ _ _ _ (by kernel_rfl)).trans (h2 t0_0 t0_1 t0_2 t2 t3 t5 t8_0 t8_1 t8_2 t8_3 t10 t45 t46 t47)
  show F134.labD (bodyOf Try.f134) tabR tyR true (cs134 s134 n) rec (d + 1) 3 _ = _
  rw [Fn.labD_succ, p134_3]
  simp only [e2]
  rfl
theorem m134_2 (s134 : (List Tm × List Tm × Bool × Unit) → Tm → Int → Bool → Option (Tm × Bool)) (n : Nat) : ∀ m : Nat, (∀ t0_0 t0_1 t0_2 t2 t3 t5 t8_0 t8_1 t8_2 t8_3 t10 t45 t46 t47, F134.labM (bodyOf Try.f134) tabR tyR true (cs134 s134 n) m 2 (st134_2 t0_0 t0_1 t0_2 t2 t3 t5 t8_0 t8_1 t8_2 t8_3 t10 t45 t46 t47) = l134_2 s134 n m t0_0 t0_1 t0_2 t2 t3 t5 t8_0 t8_1 t8_2 t8_3 t10 t45 t46 t47) := by
  intro m
  induction m with
  | zero => exact fun _ _ _ _ _ _ _ _ _ _ _ _ _ _ => rfl
  | succ m ih =>
    intro t0_0 t0_1 t0_2 t2 t3 t5 t8_0 t8_1 t8_2 t8_3 t10 t45 t46 t47
    have e3 : ∀ t0_0 t0_1 t0_2 t2 t3 t5 t8_0 t8_1 t8_2 t8_3 t10 t11 t13 t14 t45 t46 t47, F134.labX (bodyOf Try.f134) tabR tyR true (cs134 s134 n) (F134.labM (bodyOf Try.f134) tabR tyR true (cs134 s134 n) m) 4 3 (st134_3 t0_0 t0_1 t0_2 t2 t3 t5 t8_0 t8_1 t8_2 t8_3 t10 t11 t13 t14 t45 t46 t47) = c134_3 s134 n (l134_2 s134 n m) t0_0 t0_1 t0_2 t2 t3 t5 t8_0 t8_1 t8_2 t8_3 t10 t11 t13 t14 t45 t46 t47 := fun t0_0 t0_1 t0_2 t2 t3 t5 t8_0 t8_1 t8_2 t8_3 t10 t11 t13 t14 t45 t46 t47 => (Fn.labX_step _ _ _ _ _ _ _ _ _ _ (by kernel_rfl)).trans (n134_3 s134 n (F134.labM (bodyOf Try.f134) tabR tyR true (cs134 s134 n) m) (l134_2 s134 n m) ih 3 t0_0 t0_1 t0_2 t2 t3 t5 t8_0 t8_1 t8_2 t8_3 t10 t11 t13 t14 t45 t46 t47)
    rw [Fn.labM_succ]
    show F134.labD (bodyOf Try.f134) tabR tyR true (cs134 s134 n) (F134.labM (bodyOf Try.f134) tabR tyR true (cs134 s134 n) m) (4 + 1) 2 _ = _
    rw [Fn.labD_succ, p134_2]
    simp only [e3]
    rfl
theorem w134 (s134 : (List Tm × List Tm × Bool × Unit) → Tm → Int → Bool → Option (Tm × Bool)) (n : Nat) (x : PTs.den F134.ps) : F134.body (bodyOf Try.f134) tabR tyR true (cs134 s134 n) (F134.labX (bodyOf Try.f134) tabR tyR true (cs134 s134 n) (F134.labM (bodyOf Try.f134) tabR tyR true (cs134 s134 n) n) F134.D) x = o134_0 s134 n (c134_1 s134 n (l134_2 s134 n n)) x.1 x.2.1 x.2.2.1 x.2.2.2.1 := by
  have e1 : ∀ t0_0 t0_1 t0_2 t2 t3 t5 t8_0 t8_1 t8_2 t8_3 t23, F134.labX (bodyOf Try.f134) tabR tyR true (cs134 s134 n) (F134.labM (bodyOf Try.f134) tabR tyR true (cs134 s134 n) n) 5 1 (st134_1 t0_0 t0_1 t0_2 t2 t3 t5 t8_0 t8_1 t8_2 t8_3 t23) = c134_1 s134 n (l134_2 s134 n n) t0_0 t0_1 t0_2 t2 t3 t5 t8_0 t8_1 t8_2 t8_3 t23 := fun t0_0 t0_1 t0_2 t2 t3 t5 t8_0 t8_1 t8_2 t8_3 t23 => (Fn.labX_step _ _ _ _ _ _ _ _ _ _ (by kernel_rfl)).trans (n134_1 s134 n (F134.labM (bodyOf Try.f134) tabR tyR true (cs134 s134 n) n) (l134_2 s134 n n) (m134_2 s134 n n) 4 t0_0 t0_1 t0_2 t2 t3 t5 t8_0 t8_1 t8_2 t8_3 t23)
  show F134.body (bodyOf Try.f134) tabR tyR true (cs134 s134 n) (F134.labX (bodyOf Try.f134) tabR tyR true (cs134 s134 n) (F134.labM (bodyOf Try.f134) tabR tyR true (cs134 s134 n) n) 5) x = _
  rw [p134_0]
  simp only [e1]
  try rfl
theorem call134 : Callable Try.prog 134 := callable_of Try.func134 (by kernel_rfl) (by kernel_rfl)
theorem okr134 : ∀ n : Nat, Cal.Ok Try.prog ⟨134, F134.ps, F134.rs, F134.fr, fun a => f134 n a.1 a.2.1 a.2.2.1 a.2.2.2.1⟩
  | 0 => ⟨by kernel_rfl, fun a r h => by cases h⟩
  | n + 1 => cal_of_fn F134 (code := bodyOf Try.f134) Try.func134 (by kernel_rfl) (by kernel_rfl) call134 htabR (cs := cs134 (f134 n) n) (fun c hc => by
      simp only [cs134, List.mem_cons, List.not_mem_nil, or_false] at hc
      rcases hc with rfl | rfl | rfl
      · exact ok129
      · exact (okr134 n)
      · exact ok153 n) (fun _ => mixed) (by kernel_rfl) (by kernel_rfl) (by decide) (fun x => ⟨n, w134 (f134 n) n x⟩)
theorem ok134 (n : Nat) : Cal.Ok Try.prog ⟨134, F134.ps, F134.rs, F134.fr, fun a => f134 n a.1 a.2.1 a.2.2.1 a.2.2.2.1⟩ := (okr134 n)
-- tranship/subst.put
def o97_0 (n : Nat) (k1 : Tm → Int → Int → Int → Int → (List Tm) → (List Tm) → Bool → (List Tm) → Int → Int → Option (Tm × Bool)) (a0 : Tm) (a1 : List Tm) (a2 : Bool) : Option (Tm × Bool) :=
  k1 a0 (0 : Int) (0 : Int) (0 : Int) (0 : Int) a1 ([] : List Tm) a2 a1 (a1.length : Int) (0 : Int)
def o97_1 (n : Nat) (k2 : Tm → Int → Int → Int → Int → (List Tm) → (List Tm) → Bool → Tm → (List Tm) → Int → Int → Option (Tm × Bool)) (t3 : Tm) (t6_0 : Int) (t6_1 : Int) (t6_2 : Int) (t6_3 : Int) (t8_0 : List Tm) (t8_1 : List Tm) (t8_2 : Bool) (t15 : List Tm) (t16 : Int) (t17 : Int) : Option (Tm × Bool) :=
  ifB (decide (t17 < t16)) (
    atI t15 t17 fun x1 =>
    (f87 n x1).bind fun x2 =>
    ifB (!x2) (
      some ((Tm.mk (0 : Int) (0 : Int) (0 : Int) (0 : Int) ([] : List Tm)), false)) (
      (f133 t3).bind fun x3 =>
      ifB (!x3) (
        ifB (decide ((13 : Int) ≤ x1.kind)) (
          some ((Tm.mk (0 : Int) (0 : Int) (0 : Int) (0 : Int) ([] : List Tm)), false)) (
          k2 t3 t6_0 t6_1 t6_2 t6_3 t8_0 t8_1 t8_2 x1 t15 t16 t17)) (
        k2 t3 t6_0 t6_1 t6_2 t6_3 t8_0 t8_1 t8_2 x1 t15 t16 t17))) (
    (f134 n (t8_0, t8_1, t8_2, ()) t3 (0 : Int) (decide ((13 : Int) ≤ t3.kind))).bind fun x4 =>
    some (x4.1, x4.2))
def o97_2 (n : Nat) (k1 : Tm → Int → Int → Int → Int → (List Tm) → (List Tm) → Bool → (List Tm) → Int → Int → Option (Tm × Bool)) (t3 : Tm) (t6_0 : Int) (t6_1 : Int) (t6_2 : Int) (t6_3 : Int) (t8_0 : List Tm) (t8_1 : List Tm) (t8_2 : Bool) (t10 : Tm) (t15 : List Tm) (t16 : Int) (t17 : Int) : Option (Tm × Bool) :=
  (f30 n t10).bind fun x5 =>
  ckB (decide ((t8_1.length + [(Tm.mk (0 : Int) (0 : Int) (0 : Int) (0 : Int) ([] : List Tm))].length) * 56 ≤ 140737488355328) && decide (t8_1.length + [(Tm.mk (0 : Int) (0 : Int) (0 : Int) (0 : Int) ([] : List Tm))].length ≤ 9223372036854775807)) <|
  ckB (decide (0 ≤ (t8_1.length : Int)) && decide ((t8_1.length : Int) < (t8_1 ++ [(Tm.mk (0 : Int) (0 : Int) (0 : Int) (0 : Int) ([] : List Tm))]).length)) <|
  ckB (decide ((t8_1.length : Int).toNat < (t8_1 ++ [(Tm.mk (0 : Int) (0 : Int) (0 : Int) (0 : Int) ([] : List Tm))]).length)) <|
  ckI (t17 + (1 : Int)) <|
  k1 t3 t6_0 t6_1 t6_2 t6_3 t8_0 ((t8_1 ++ [(Tm.mk (0 : Int) (0 : Int) (0 : Int) (0 : Int) ([] : List Tm))]).set (t8_1.length : Int).toNat (Tm.mk x5.kind x5.i x5.j x5.n x5.kids)) t8_2 t15 t16 (t17 + (1 : Int))
def c97_2 (n : Nat) (k1 : Tm → Int → Int → Int → Int → (List Tm) → (List Tm) → Bool → (List Tm) → Int → Int → Option (Tm × Bool)) (t3 : Tm) (t6_0 : Int) (t6_1 : Int) (t6_2 : Int) (t6_3 : Int) (t8_0 : List Tm) (t8_1 : List Tm) (t8_2 : Bool) (t10 : Tm) (t15 : List Tm) (t16 : Int) (t17 : Int) : Option (Tm × Bool) :=
  o97_2 n k1 t3 t6_0 t6_1 t6_2 t6_3 t8_0 t8_1 t8_2 t10 t15 t16 t17
def l97_1 (n : Nat) : Nat → Tm → Int → Int → Int → Int → (List Tm) → (List Tm) → Bool → (List Tm) → Int → Int → Option (Tm × Bool)
  | 0, _, _, _, _, _, _, _, _, _, _, _ => none
  | m + 1, t3, t6_0, t6_1, t6_2, t6_3, t8_0, t8_1, t8_2, t15, t16, t17 => o97_1 n (c97_2 n (l97_1 n m)) t3 t6_0 t6_1 t6_2 t6_3 t8_0 t8_1 t8_2 t15 t16 t17
def f97 (n : Nat) (a0 : Tm) (a1 : List Tm) (a2 : Bool) : Option (Tm × Bool) := o97_0 n (l97_1 n n) a0 a1 a2
def an97 : An := (.n none [] 0 .z (.n none [] 0 .z (.n none [] 0 (.n none [] 0 .z (.n none [] 0 (.n (some 1) [(3, .ps 0 .tm false), (6, .p 1 [.c, .c, .c, .c, .k]), (8, .p 2 [.d .tm false, .r 3 24 .tm true, .c]), (15, .one (.d .tm false)), (16, .one .c), (17, .one .c)] 4 (.n none [] 0 .z (.n none [] 0 .z (.n none [] 0 (.n none [] 0 (.n none [] 0 .z (.n (some 2) [(3, .ps 0 .tm false), (6, .p 1 [.c, .c, .c, .c, .k]), (8, .p 2 [.d .tm false, .r 3 24 .tm true, .c]), (10, .ps 4 .tm false), (15, .one (.d .tm false)), (16, .one .c), (17, .one .c)] 5 .z .z)) .z) .z))) .z) .z)) .z)))
def F97 : Fn := { f := 97, a := an97, vars := [.cell 6 24, .tmp 7], ps := [.st .tm, .sl .tm, .sc .bool], rs := [.st .tm, .sc .bool], own := false, fr := true, nt := 56, D := 4, loops := [1] }
def cs97 (n : Nat) : List Cal := [⟨30, [.st .tm], [.st .tm], true, fun a => f30 n a.1⟩, ⟨87, [.st .tm], [.sc .bool], true, fun a => f87 n a.1⟩, ⟨133, [.st .tm], [.sc .bool], true, fun a => f133 a.1⟩, ⟨134, [.ro [(true, .tm), (true, .tm), (false, .bool)], .st .tm, .sc .int, .sc .bool], [.st .tm, .sc .bool], true, fun a => f134 n a.1 a.2.1 a.2.2.1 a.2.2.2.1⟩]
def st97_1 (t3 : Tm) (t6_0 : Int) (t6_1 : Int) (t6_2 : Int) (t6_3 : Int) (t8_0 : List Tm) (t8_1 : List Tm) (t8_2 : Bool) (t15 : List Tm) (t16 : Int) (t17 : Int) : SS := ⟨[(3, .v (.one (.ptr 0 0))), (6, .v (.one (.ptr 1 0))), (8, .v (.one (.ptr 2 0))), (15, .v (.one (.c (.sl .tm t15) false))), (16, .v (.one (.c (.int t16) true))), (17, .v (.one (.c (.int t17) true)))], [(0, some (.bst .tm t3 false)), (1, some (.box [.c (.int t6_0) true, .c (.int t6_1) true, .c (.int t6_2) true, .c (.int t6_3) true, .nils])), (2, some (.box [.c (.sl .tm t8_0) false, .arr 3, .c (.bool t8_2) true])), (3, some (.row 24 .tm t8_1 true))], 4⟩
def st97_2 (t3 : Tm) (t6_0 : Int) (t6_1 : Int) (t6_2 : Int) (t6_3 : Int) (t8_0 : List Tm) (t8_1 : List Tm) (t8_2 : Bool) (t10 : Tm) (t15 : List Tm) (t16 : Int) (t17 : Int) : SS := ⟨[(3, .v (.one (.ptr 0 0))), (6, .v (.one (.ptr 1 0))), (8, .v (.one (.ptr 2 0))), (10, .v (.one (.ptr 4 0))), (15, .v (.one (.c (.sl .tm t15) false))), (16, .v (.one (.c (.int t16) true))), (17, .v (.one (.c (.int t17) true)))], [(0, some (.bst .tm t3 false)), (1, some (.box [.c (.int t6_0) true, .c (.int t6_1) true, .c (.int t6_2) true, .c (.int t6_3) true, .nils])), (2, some (.box [.c (.sl .tm t8_0) false, .arr 3, .c (.bool t8_2) true])), (3, some (.row 24 .tm t8_1 true)), (4, some (.bst .tm t10 false))], 5⟩
theorem p97_0 (n : Nat) (lab : Nat → SS → Option (RT.den F97.rs)) (x : PTs.den F97.ps) : F97.body (bodyOf Try.f97) tabR tyR true (cs97 n) lab x = o97_0 n (fun t3 t6_0 t6_1 t6_2 t6_3 t8_0 t8_1 t8_2 t15 t16 t17 => lab 1 (st97_1 t3 t6_0 t6_1 t6_2 t6_3 t8_0 t8_1 t8_2 t15 t16 t17)) x.1 x.2.1 x.2.2.1 := by kernel_rfl
theorem p97_1 (n : Nat) (lab : Nat → SS → Option (RT.den F97.rs)) (t3 : Tm) (t6_0 : Int) (t6_1 : Int) (t6_2 : Int) (t6_3 : Int) (t8_0 : List Tm) (t8_1 : List Tm) (t8_2 : Bool) (t15 : List Tm) (t16 : Int) (t17 : Int) : F97.at (bodyOf Try.f97) tabR tyR true (cs97 n) lab 1 (st97_1 t3 t6_0 t6_1 t6_2 t6_3 t8_0 t8_1 t8_2 t15 t16 t17) = o97_1 n (fun t3 t6_0 t6_1 t6_2 t6_3 t8_0 t8_1 t8_2 t10 t15 t16 t17 => lab 2 (st97_2 t3 t6_0 t6_1 t6_2 t6_3 t8_0 t8_1 t8_2 t10 t15 t16 t17)) t3 t6_0 t6_1 t6_2 t6_3 t8_0 t8_1 t8_2 t15 t16 t17 := by kernel_rfl
theorem p97_2 (n : Nat) (lab : Nat → SS → Option (RT.den F97.rs)) (t3 : Tm) (t6_0 : Int) (t6_1 : Int) (t6_2 : Int) (t6_3 : Int) (t8_0 : List Tm) (t8_1 : List Tm) (t8_2 : Bool) (t10 : Tm) (t15 : List Tm) (t16 : Int) (t17 : Int) : F97.at (bodyOf Try.f97) tabR tyR true (cs97 n) lab 2 (st97_2 t3 t6_0 t6_1 t6_2 t6_3 t8_0 t8_1 t8_2 t10 t15 t16 t17) = o97_2 n (fun t3 t6_0 t6_1 t6_2 t6_3 t8_0 t8_1 t8_2 t15 t16 t17 => lab 1 (st97_1 t3 t6_0 t6_1 t6_2 t6_3 t8_0 t8_1 t8_2 t15 t16 t17)) t3 t6_0 t6_1 t6_2 t6_3 t8_0 t8_1 t8_2 t10 t15 t16 t17 := by kernel_rfl
theorem n97_2 (n : Nat) (rec : Nat → SS → Option (RT.den F97.rs)) (k1 : Tm → Int → Int → Int → Int → (List Tm) → (List Tm) → Bool → (List Tm) → Int → Int → Option (Tm × Bool)) (h1 : ∀ t3 t6_0 t6_1 t6_2 t6_3 t8_0 t8_1 t8_2 t15 t16 t17, rec 1 (st97_1 t3 t6_0 t6_1 t6_2 t6_3 t8_0 t8_1 t8_2 t15 t16 t17) = k1 t3 t6_0 t6_1 t6_2 t6_3 t8_0 t8_1 t8_2 t15 t16 t17) (d : Nat) (t3 : Tm) (t6_0 : Int) (t6_1 : Int) (t6_2 : Int) (t6_3 : Int) (t8_0 : List Tm) (t8_1 : List Tm) (t8_2 : Bool) (t10 : Tm) (t15 : List Tm) (t16 : Int) (t17 : Int) : F97.labD (bodyOf Try.f97) tabR tyR true (cs97 n) rec (d + 1) 2 (st97_2 t3 t6_0 t6_1 t6_2 t6_3 t8_0 t8_1 t8_2 t10 t15 t16 t17) = c97_2 n k1 t3 t6_0 t6_1 t6_2 t6_3 t8_0 t8_1 t8_2 t10 t15 t16 t17 := by
  have e1 : ∀ t3 t6_0 t6_1 t6_2 t6_3 t8_0 t8_1 t8_2 t15 t16 t17, F97.labX (bodyOf Try.f97) tabR tyR true (cs97 n) rec d 1 (st97_1 t3 t6_0 t6_1 t6_2 t6_3 t8_0 t8_1 t8_2 t15 t16 t17) = k1 t3 t6_0 t6_1 t6_2 t6_3 t8_0 t8_1 t8_2 t15 t16 t17 := fun t3 t6_0 t6_1 t6_2 t6_3 t8_0 t8_1 t8_2 t15 t16 t17 => (Fn.labX_loop _ _ _ _ _ _ _ _ _ _ (by kernel_rfl)).trans (h1 t3 t6_0 t6_1 t6_2 t6_3 t8_0 t8_1 t8_2 t15 t16 t17)
  show F97.labD (bodyOf Try.f97) tabR tyR true (cs97 n) rec (d + 1) 2 _ = _
  rw [Fn.labD_succ, p97_2]
  simp only [e1]
  rfl
theorem m97_1 (n : Nat) : ∀ m : Nat, (∀ t3 t6_0 t6_1 t6_2 t6_3 t8_0 t8_1 t8_2 t15 t16 t17, F97.labM (bodyOf Try.f97) tabR tyR true (cs97 n) m 1 (st97_1 t3 t6_0 t6_1 t6_2 t6_3 t8_0 t8_1 t8_2 t15 t16 t17) = l97_1 n m t3 t6_0 t6_1 t6_2 t6_3 t8_0 t8_1 t8_2 t15 t16 t17) := by
  intro m
  induction m with
  | zero => exact fun _ _ _ _ _ _ _ _ _ _ _ => rfl
  | succ m ih =>
    intro t3 t6_0 t6_1 t6_2 t6_3 t8_0 t8_1 t8_2 t15 t16 t17
    have e2 : ∀ t3 t6_0 t6_1 t6_2 t6_3 t8_0 t8_1 t8_2 t10 t15 t16 t17, F97.labX (bodyOf Try.f97) tabR tyR true (cs97 n) (F97.labM (bodyOf Try.f97) tabR tyR true (cs97 n) m) 3 2 (st97_2 t3 t6_0 t6_1 t6_2 t6_3 t8_0 t8_1 t8_2 t10 t15 t16 t17) = c97_2 n (l97_1 n m) t3 t6_0 t6_1 t6_2 t6_3 t8_0 t8_1 t8_2 t10 t15 t16 t17 := fun t3 t6_0 t6_1 t6_2 t6_3 t8_0 t8_1 t8_2 t10 t15 t16 t17 => (Fn.labX_step _ _ _ _ _ _ _ _ _ _ (by kernel_rfl)).trans (n97_2 n (F97.labM (bodyOf Try.f97) tabR tyR true (cs97 n) m) (l97_1 n m) ih 2 t3 t6_0 t6_1 t6_2 t6_3 t8_0 t8_1 t8_2 t10 t15 t16 t17)
    rw [Fn.labM_succ]
    show F97.labD (bodyOf Try.f97) tabR tyR true (cs97 n) (F97.labM (bodyOf Try.f97) tabR tyR true (cs97 n) m) (3 + 1) 1 _ = _
    rw [Fn.labD_succ, p97_1]
    simp only [e2]
    rfl
theorem w97 (n : Nat) (x : PTs.den F97.ps) : F97.body (bodyOf Try.f97) tabR tyR true (cs97 n) (F97.labX (bodyOf Try.f97) tabR tyR true (cs97 n) (F97.labM (bodyOf Try.f97) tabR tyR true (cs97 n) n) F97.D) x = o97_0 n (l97_1 n n) x.1 x.2.1 x.2.2.1 := by
  have e1 : ∀ t3 t6_0 t6_1 t6_2 t6_3 t8_0 t8_1 t8_2 t15 t16 t17, F97.labX (bodyOf Try.f97) tabR tyR true (cs97 n) (F97.labM (bodyOf Try.f97) tabR tyR true (cs97 n) n) 4 1 (st97_1 t3 t6_0 t6_1 t6_2 t6_3 t8_0 t8_1 t8_2 t15 t16 t17) = (l97_1 n n) t3 t6_0 t6_1 t6_2 t6_3 t8_0 t8_1 t8_2 t15 t16 t17 := fun t3 t6_0 t6_1 t6_2 t6_3 t8_0 t8_1 t8_2 t15 t16 t17 => (Fn.labX_loop _ _ _ _ _ _ _ _ _ _ (by kernel_rfl)).trans ((m97_1 n n) t3 t6_0 t6_1 t6_2 t6_3 t8_0 t8_1 t8_2 t15 t16 t17)
  show F97.body (bodyOf Try.f97) tabR tyR true (cs97 n) (F97.labX (bodyOf Try.f97) tabR tyR true (cs97 n) (F97.labM (bodyOf Try.f97) tabR tyR true (cs97 n) n) 4) x = _
  rw [p97_0]
  simp only [e1]
  try rfl
theorem call97 : Callable Try.prog 97 := callable_of Try.func97 (by kernel_rfl) (by kernel_rfl)
theorem ok97 (n : Nat) : Cal.Ok Try.prog ⟨97, F97.ps, F97.rs, F97.fr, fun a => f97 n a.1 a.2.1 a.2.2.1⟩ :=
  cal_of_fn F97 (code := bodyOf Try.f97) Try.func97 (by kernel_rfl) (by kernel_rfl) call97 htabR (cs := cs97 n) (fun c hc => by
      simp only [cs97, List.mem_cons, List.not_mem_nil, or_false] at hc
      rcases hc with rfl | rfl | rfl | rfl
      · exact ok30 n
      · exact ok87 n
      · exact ok133
      · exact ok134 n) (fun _ => mixed) (by kernel_rfl) (by kernel_rfl) (by decide) (fun x => ⟨n, w97 n x⟩)
-- tranship/subst.Put
def o36_0 (n : Nat) (a0 : Tm) (a1 : Tm) : Option Tm :=
  (f87 n a0).bind fun x1 =>
  ifB (!x1) (
    some (Tm.mk (0 : Int) (0 : Int) (0 : Int) (0 : Int) ([] : List Tm))) (
    (f97 n a0 [(Tm.mk a1.kind a1.i a1.j a1.n a1.kids)] true).bind fun x2 =>
    ifB (!x2.2) (
      some (Tm.mk (0 : Int) (0 : Int) (0 : Int) (0 : Int) ([] : List Tm))) (
      some x2.1))
def f36 (n : Nat) (a0 : Tm) (a1 : Tm) : Option Tm := o36_0 n a0 a1
def an36 : An := .z
def F36 : Fn := { f := 36, a := an36, vars := [.cell 4 24], ps := [.st .tm, .st .tm], rs := [.st .tm], own := false, fr := true, nt := 22, D := 2, loops := [] }
def cs36 (n : Nat) : List Cal := [⟨87, [.st .tm], [.sc .bool], true, fun a => f87 n a.1⟩, ⟨97, [.st .tm, .sl .tm, .sc .bool], [.st .tm, .sc .bool], true, fun a => f97 n a.1 a.2.1 a.2.2.1⟩]
theorem p36_0 (n : Nat) (lab : Nat → SS → Option (RT.den F36.rs)) (x : PTs.den F36.ps) : F36.body (bodyOf Try.f36) tabR tyR true (cs36 n) lab x = o36_0 n x.1 x.2.1 := by kernel_rfl
theorem w36 (n : Nat) (x : PTs.den F36.ps) : F36.body (bodyOf Try.f36) tabR tyR true (cs36 n) (F36.labX (bodyOf Try.f36) tabR tyR true (cs36 n) (F36.labM (bodyOf Try.f36) tabR tyR true (cs36 n) 0) F36.D) x = o36_0 n x.1 x.2.1 := by
  show F36.body (bodyOf Try.f36) tabR tyR true (cs36 n) (F36.labX (bodyOf Try.f36) tabR tyR true (cs36 n) (F36.labM (bodyOf Try.f36) tabR tyR true (cs36 n) 0) 2) x = _
  rw [p36_0]
theorem call36 : Callable Try.prog 36 := callable_of Try.func36 (by kernel_rfl) (by kernel_rfl)
theorem ok36 (n : Nat) : Cal.Ok Try.prog ⟨36, F36.ps, F36.rs, F36.fr, fun a => f36 n a.1 a.2.1⟩ :=
  cal_of_fn F36 (code := bodyOf Try.f36) Try.func36 (by kernel_rfl) (by kernel_rfl) call36 htabR (cs := cs36 n) (fun c hc => by
      simp only [cs36, List.mem_cons, List.not_mem_nil, or_false] at hc
      rcases hc with rfl | rfl
      · exact ok87 n
      · exact ok97 n) (fun _ => mixed) (by kernel_rfl) (by kernel_rfl) (by decide) (fun x => ⟨0, w36 n x⟩)
end Go.Proofs.Ytcaahmielncmpaa
