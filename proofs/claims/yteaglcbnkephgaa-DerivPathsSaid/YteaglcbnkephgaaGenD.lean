/-
  What the functions on derivations compute, as plain functions.
-/
import Derived.Test.YteaglcbnkephgaaTypedB
set_option linter.unusedSimpArgs false
set_option linter.unusedVariables false
namespace Go.Proofs.Yteaglcbnkephgaa
open Go Go.RowKit
set_option maxRecDepth 100000
-- tranship/transhipkeep.weighDeriv
def o105_0 (s105 : Dv → Int → Int → Option Int) (n : Nat) (k1 : Int → Int → Dv → Int → Int → Option Int) (a0 : Dv) (a1 : Int) (a2 : Int) : Option Int :=
  if (decide (a2 < (0 : Int))) then
    ckI (a1 + (1 : Int)) <|
    some (a1 + (1 : Int))
  else
    k1 a1 a2 a0 (1 : Int) (0 : Int)
def o105_1 (s105 : Dv → Int → Int → Option Int) (n : Nat) (k2 : Int → Int → Dv → Int → Int → Option Int) (t1 : Int) (t2 : Int) (t3 : Dv) (t7 : Int) (t8 : Int) : Option Int :=
  if (decide (t8 < (t3.kids.length : Int))) then
    if (decide (t7 ≤ t1)) then
      k2 t1 t2 t3 t7 t8
    else
      some t7
  else
    some t7
def o105_2 (s105 : Dv → Int → Int → Option Int) (n : Nat) (k1 : Int → Int → Dv → Int → Int → Option Int) (t1 : Int) (t2 : Int) (t3 : Dv) (t7 : Int) (t8 : Int) : Option Int :=
  atI t3.kids t8 fun x1 =>
  ckI (t1 - t7) <|
  ckI (t2 - (1 : Int)) <|
  (s105 x1 (t1 - t7) (t2 - (1 : Int))).bind fun x2 =>
  ckI (t7 + x2) <|
  ckI (t8 + (1 : Int)) <|
  k1 t1 t2 t3 (t7 + x2) (t8 + (1 : Int))
def c105_2 (s105 : Dv → Int → Int → Option Int) (n : Nat) (k1 : Int → Int → Dv → Int → Int → Option Int) (t1 : Int) (t2 : Int) (t3 : Dv) (t7 : Int) (t8 : Int) : Option Int :=
  o105_2 s105 n k1 t1 t2 t3 t7 t8
def l105_1 (s105 : Dv → Int → Int → Option Int) (n : Nat) : Nat → Int → Int → Dv → Int → Int → Option Int
  | 0, _, _, _, _, _ => none
  | m + 1, t1, t2, t3, t7, t8 => o105_1 s105 n (c105_2 s105 n (l105_1 s105 n m)) t1 t2 t3 t7 t8
def f105 : Nat → Dv → Int → Int → Option Int
  | 0, _, _, _ => none
  | n + 1, a0, a1, a2 => o105_0 (f105 n) n (l105_1 (f105 n) n n) a0 a1 a2
def an105 : An := (.n none [] 0 .z (.n none [] 0 .z (.n none [] 0 .z (.n none [] 0 (.n none [] 0 .z (.n none [] 0 (.n (some 1) [(1, .one .c), (2, .one .c), (3, .ps 0 .dv false), (7, .one .c), (8, .one .c)] 1 (.n (some 2) [(1, .one .c), (2, .one .c), (3, .ps 0 .dv false), (7, .one .c), (8, .one .c)] 1 .z .z) .z) .z)) .z))))
def F105 : Fn := { f := 105, a := an105, vars := [.tmp 6], ps := [.st .dv, .sc .int, .sc .int], rs := [.sc .int], own := false, fr := true, nt := 39, D := 4, loops := [1] }
def cs105 (s105 : Dv → Int → Int → Option Int) (n : Nat) : List Cal := [⟨105, [.st .dv, .sc .int, .sc .int], [.sc .int], true, fun a => s105 a.1 a.2.1 a.2.2.1⟩]
def st105_1 (t1 : Int) (t2 : Int) (t3 : Dv) (t7 : Int) (t8 : Int) : SS := ⟨[(1, .v (.one (.c (.int t1) true))), (2, .v (.one (.c (.int t2) true))), (3, .v (.one (.ptr 0 0))), (7, .v (.one (.c (.int t7) true))), (8, .v (.one (.c (.int t8) true)))], [(0, some (.bst .dv t3 false))], 1⟩
def st105_2 (t1 : Int) (t2 : Int) (t3 : Dv) (t7 : Int) (t8 : Int) : SS := ⟨[(1, .v (.one (.c (.int t1) true))), (2, .v (.one (.c (.int t2) true))), (3, .v (.one (.ptr 0 0))), (7, .v (.one (.c (.int t7) true))), (8, .v (.one (.c (.int t8) true)))], [(0, some (.bst .dv t3 false))], 1⟩
theorem p105_0 (s105 : Dv → Int → Int → Option Int) (n : Nat) (lab : Nat → SS → Option (RT.den F105.rs)) (x : PTs.den F105.ps) : F105.body (bodyOf Try.f105) tabR tyR true (cs105 s105 n) lab x = o105_0 s105 n (fun t1 t2 t3 t7 t8 => lab 1 (st105_1 t1 t2 t3 t7 t8)) x.1 x.2.1 x.2.2.1 := by kernel_rfl
theorem p105_1 (s105 : Dv → Int → Int → Option Int) (n : Nat) (lab : Nat → SS → Option (RT.den F105.rs)) (t1 : Int) (t2 : Int) (t3 : Dv) (t7 : Int) (t8 : Int) : F105.at (bodyOf Try.f105) tabR tyR true (cs105 s105 n) lab 1 (st105_1 t1 t2 t3 t7 t8) = o105_1 s105 n (fun t1 t2 t3 t7 t8 => lab 2 (st105_2 t1 t2 t3 t7 t8)) t1 t2 t3 t7 t8 := by kernel_rfl
theorem p105_2 (s105 : Dv → Int → Int → Option Int) (n : Nat) (lab : Nat → SS → Option (RT.den F105.rs)) (t1 : Int) (t2 : Int) (t3 : Dv) (t7 : Int) (t8 : Int) : F105.at (bodyOf Try.f105) tabR tyR true (cs105 s105 n) lab 2 (st105_2 t1 t2 t3 t7 t8) = o105_2 s105 n (fun t1 t2 t3 t7 t8 => lab 1 (st105_1 t1 t2 t3 t7 t8)) t1 t2 t3 t7 t8 := by kernel_rfl
theorem n105_2 (s105 : Dv → Int → Int → Option Int) (n : Nat) (rec : Nat → SS → Option (RT.den F105.rs)) (k1 : Int → Int → Dv → Int → Int → Option Int) (h1 : ∀ t1 t2 t3 t7 t8, rec 1 (st105_1 t1 t2 t3 t7 t8) = k1 t1 t2 t3 t7 t8) (d : Nat) (t1 : Int) (t2 : Int) (t3 : Dv) (t7 : Int) (t8 : Int) : F105.labD (bodyOf Try.f105) tabR tyR true (cs105 s105 n) rec (d + 1) 2 (st105_2 t1 t2 t3 t7 t8) = c105_2 s105 n k1 t1 t2 t3 t7 t8 := by
  have e1 : ∀ t1 t2 t3 t7 t8, F105.labX (bodyOf Try.f105) tabR tyR true (cs105 s105 n) rec d 1 (st105_1 t1 t2 t3 t7 t8) = k1 t1 t2 t3 t7 t8 := fun t1 t2 t3 t7 t8 => (Fn.labX_loop _ _ _ _ _ _ _ _ _ _ (by kernel_rfl)).trans (h1 t1 t2 t3 t7 t8)
  show F105.labD (bodyOf Try.f105) tabR tyR true (cs105 s105 n) rec (d + 1) 2 _ = _
  rw [Fn.labD_succ, p105_2]
  simp only [e1]
  rfl
theorem m105_1 (s105 : Dv → Int → Int → Option Int) (n : Nat) : ∀ m : Nat, (∀ t1 t2 t3 t7 t8, F105.labM (bodyOf Try.f105) tabR tyR true (cs105 s105 n) m 1 (st105_1 t1 t2 t3 t7 t8) = l105_1 s105 n m t1 t2 t3 t7 t8) := by
  intro m
  induction m with
  | zero => exact fun _ _ _ _ _ => rfl
  | succ m ih =>
    intro t1 t2 t3 t7 t8
    have e2 : ∀ t1 t2 t3 t7 t8, F105.labX (bodyOf Try.f105) tabR tyR true (cs105 s105 n) (F105.labM (bodyOf Try.f105) tabR tyR true (cs105 s105 n) m) 3 2 (st105_2 t1 t2 t3 t7 t8) = c105_2 s105 n (l105_1 s105 n m) t1 t2 t3 t7 t8 := fun t1 t2 t3 t7 t8 => (Fn.labX_step _ _ _ _ _ _ _ _ _ _ (by kernel_rfl)).trans (n105_2 s105 n (F105.labM (bodyOf Try.f105) tabR tyR true (cs105 s105 n) m) (l105_1 s105 n m) ih 2 t1 t2 t3 t7 t8)
    rw [Fn.labM_succ]
    show F105.labD (bodyOf Try.f105) tabR tyR true (cs105 s105 n) (F105.labM (bodyOf Try.f105) tabR tyR true (cs105 s105 n) m) (3 + 1) 1 _ = _
    rw [Fn.labD_succ, p105_1]
    simp only [e2]
    rfl
theorem w105 (s105 : Dv → Int → Int → Option Int) (n : Nat) (x : PTs.den F105.ps) : F105.body (bodyOf Try.f105) tabR tyR true (cs105 s105 n) (F105.labX (bodyOf Try.f105) tabR tyR true (cs105 s105 n) (F105.labM (bodyOf Try.f105) tabR tyR true (cs105 s105 n) n) F105.D) x = o105_0 s105 n (l105_1 s105 n n) x.1 x.2.1 x.2.2.1 := by
  have e1 : ∀ t1 t2 t3 t7 t8, F105.labX (bodyOf Try.f105) tabR tyR true (cs105 s105 n) (F105.labM (bodyOf Try.f105) tabR tyR true (cs105 s105 n) n) 4 1 (st105_1 t1 t2 t3 t7 t8) = (l105_1 s105 n n) t1 t2 t3 t7 t8 := fun t1 t2 t3 t7 t8 => (Fn.labX_loop _ _ _ _ _ _ _ _ _ _ (by kernel_rfl)).trans ((m105_1 s105 n n) t1 t2 t3 t7 t8)
  show F105.body (bodyOf Try.f105) tabR tyR true (cs105 s105 n) (F105.labX (bodyOf Try.f105) tabR tyR true (cs105 s105 n) (F105.labM (bodyOf Try.f105) tabR tyR true (cs105 s105 n) n) 4) x = _
  rw [p105_0]
  simp only [e1]
  try rfl
theorem call105 : Callable Try.prog 105 := callable_of Try.func105 (by kernel_rfl) (by kernel_rfl)
theorem okr105 : ∀ n : Nat, Cal.Ok Try.prog ⟨105, F105.ps, F105.rs, F105.fr, fun a => f105 n a.1 a.2.1 a.2.2.1⟩
  | 0 => ⟨by kernel_rfl, fun a r h => by cases h⟩
  | n + 1 => cal_of_fn F105 (code := bodyOf Try.f105) Try.func105 (by kernel_rfl) (by kernel_rfl) call105 htabR (cs := cs105 (f105 n) n) (fun c hc => by
      simp only [cs105, List.mem_cons, List.not_mem_nil, or_false] at hc
      rcases hc with rfl
      · exact (okr105 n)) (fun _ => mixed) (by kernel_rfl) (by kernel_rfl) (by decide) (fun x => ⟨n, w105 (f105 n) n x⟩)
theorem ok105 (n : Nat) : Cal.Ok Try.prog ⟨105, F105.ps, F105.rs, F105.fr, fun a => f105 n a.1 a.2.1 a.2.2.1⟩ := (okr105 n)
-- tranship/transhipkeep.GreatDeriv
def o34_0 (n : Nat) (a0 : Dv) (a1 : Int) : Option Bool :=
  (f105 n a0 a1 (200 : Int)).bind fun x1 =>
  some (decide (a1 < x1))
def f34 (n : Nat) (a0 : Dv) (a1 : Int) : Option Bool := o34_0 n a0 a1
def an34 : An := .z
def F34 : Fn := { f := 34, a := an34, vars := [.tmp 4], ps := [.st .dv, .sc .int], rs := [.sc .bool], own := false, fr := true, nt := 10, D := 2, loops := [] }
def cs34 (n : Nat) : List Cal := [⟨105, [.st .dv, .sc .int, .sc .int], [.sc .int], true, fun a => f105 n a.1 a.2.1 a.2.2.1⟩]
theorem p34_0 (n : Nat) (lab : Nat → SS → Option (RT.den F34.rs)) (x : PTs.den F34.ps) : F34.body (bodyOf Try.f34) tabR tyR true (cs34 n) lab x = o34_0 n x.1 x.2.1 := by kernel_rfl
theorem w34 (n : Nat) (x : PTs.den F34.ps) : F34.body (bodyOf Try.f34) tabR tyR true (cs34 n) (F34.labX (bodyOf Try.f34) tabR tyR true (cs34 n) (F34.labM (bodyOf Try.f34) tabR tyR true (cs34 n) 0) F34.D) x = o34_0 n x.1 x.2.1 := by
  show F34.body (bodyOf Try.f34) tabR tyR true (cs34 n) (F34.labX (bodyOf Try.f34) tabR tyR true (cs34 n) (F34.labM (bodyOf Try.f34) tabR tyR true (cs34 n) 0) 2) x = _
  rw [p34_0]
theorem call34 : Callable Try.prog 34 := callable_of Try.func34 (by kernel_rfl) (by kernel_rfl)
theorem ok34 (n : Nat) : Cal.Ok Try.prog ⟨34, F34.ps, F34.rs, F34.fr, fun a => f34 n a.1 a.2.1⟩ :=
  cal_of_fn F34 (code := bodyOf Try.f34) Try.func34 (by kernel_rfl) (by kernel_rfl) call34 htabR (cs := cs34 n) (fun c hc => by
      simp only [cs34, List.mem_cons, List.not_mem_nil, or_false] at hc
      rcases hc with rfl
      · exact ok105 n) (fun _ => mixed) (by kernel_rfl) (by kernel_rfl) (by decide) (fun x => ⟨0, w34 n x⟩)
-- tranship/deriv.copied
def o106_0 (s106 : Dv → Option Dv) (n : Nat) (k1 : Dv → Int → Int → (List Dv) → (List Dv) → Int → Int → Option Dv) (a0 : Dv) : Option Dv :=
  if (decide ((a0.kids.length : Int) = (0 : Int))) then
    some (Dv.mk a0.rule a0.i ([] : List Dv))
  else
    ckB (decide (0 ≤ (a0.kids.length : Int)) && (decide ((a0.kids.length : Int) ≤ (a0.kids.length : Int)) && decide ((40 : Nat) * (a0.kids.length : Int) ≤ 281474976710656))) <|
    k1 a0 (0 : Int) (0 : Int) (List.replicate (a0.kids.length : Int).toNat (Dv.mk (0 : Int) (0 : Int) ([] : List Dv))) a0.kids (a0.kids.length : Int) (0 : Int)
def o106_1 (s106 : Dv → Option Dv) (n : Nat) (k1 : Dv → Int → Int → (List Dv) → (List Dv) → Int → Int → Option Dv) (t1 : Dv) (t2_0 : Int) (t2_1 : Int) (t3 : List Dv) (t17 : List Dv) (t18 : Int) (t19 : Int) : Option Dv :=
  if (decide (t19 < t18)) then
    atI t17 t19 fun x1 =>
    (s106 x1).bind fun x2 =>
    ckB (decide (0 ≤ t19) && decide (t19 < t3.length)) <|
    ckB (decide (t19.toNat < t3.length)) <|
    ckI (t19 + (1 : Int)) <|
    k1 t1 t2_0 t2_1 (t3.set t19.toNat (Dv.mk x2.rule x2.i x2.kids)) t17 t18 (t19 + (1 : Int))
  else
    some (Dv.mk t1.rule t1.i t3)
def l106_1 (s106 : Dv → Option Dv) (n : Nat) : Nat → Dv → Int → Int → (List Dv) → (List Dv) → Int → Int → Option Dv
  | 0, _, _, _, _, _, _, _ => none
  | m + 1, t1, t2_0, t2_1, t3, t17, t18, t19 => o106_1 s106 n (l106_1 s106 n m) t1 t2_0 t2_1 t3 t17 t18 t19
def f106 : Nat → Dv → Option Dv
  | 0, _ => none
  | n + 1, a0 => o106_0 (f106 n) n (l106_1 (f106 n) n n) a0
def an106 : An := (.n none [] 0 .z (.n none [] 0 .z (.n none [] 0 .z (.n none [] 0 (.n none [] 0 .z (.n none [] 0 (.n (some 1) [(1, .ps 0 .dv false), (2, .p 1 [.c, .c, .k]), (3, .one (.r 2 24 .dv true)), (17, .one (.d .dv false)), (18, .one .c), (19, .one .c)] 3 .z .z) .z)) .z))))
def F106 : Fn := { f := 106, a := an106, vars := [.cell 2 24], ps := [.st .dv], rs := [.st .dv], own := false, fr := true, nt := 33, D := 3, loops := [1] }
def cs106 (s106 : Dv → Option Dv) (n : Nat) : List Cal := [⟨106, [.st .dv], [.st .dv], true, fun a => s106 a.1⟩]
def st106_1 (t1 : Dv) (t2_0 : Int) (t2_1 : Int) (t3 : List Dv) (t17 : List Dv) (t18 : Int) (t19 : Int) : SS := ⟨[(1, .v (.one (.ptr 0 0))), (2, .v (.one (.ptr 1 0))), (3, .v (.one (.arr 2))), (17, .v (.one (.c (.sl .dv t17) false))), (18, .v (.one (.c (.int t18) true))), (19, .v (.one (.c (.int t19) true)))], [(0, some (.bst .dv t1 false)), (1, some (.box [.c (.int t2_0) true, .c (.int t2_1) true, .nils])), (2, some (.row 24 .dv t3 true))], 3⟩
theorem p106_0 (s106 : Dv → Option Dv) (n : Nat) (lab : Nat → SS → Option (RT.den F106.rs)) (x : PTs.den F106.ps) : F106.body (bodyOf Try.f106) tabR tyR true (cs106 s106 n) lab x = o106_0 s106 n (fun t1 t2_0 t2_1 t3 t17 t18 t19 => lab 1 (st106_1 t1 t2_0 t2_1 t3 t17 t18 t19)) x.1 := by kernel_rfl
theorem p106_1 (s106 : Dv → Option Dv) (n : Nat) (lab : Nat → SS → Option (RT.den F106.rs)) (t1 : Dv) (t2_0 : Int) (t2_1 : Int) (t3 : List Dv) (t17 : List Dv) (t18 : Int) (t19 : Int) : F106.at (bodyOf Try.f106) tabR tyR true (cs106 s106 n) lab 1 (st106_1 t1 t2_0 t2_1 t3 t17 t18 t19) = o106_1 s106 n (fun t1 t2_0 t2_1 t3 t17 t18 t19 => lab 1 (st106_1 t1 t2_0 t2_1 t3 t17 t18 t19)) t1 t2_0 t2_1 t3 t17 t18 t19 := by kernel_rfl
theorem m106_1 (s106 : Dv → Option Dv) (n : Nat) : ∀ m : Nat, (∀ t1 t2_0 t2_1 t3 t17 t18 t19, F106.labM (bodyOf Try.f106) tabR tyR true (cs106 s106 n) m 1 (st106_1 t1 t2_0 t2_1 t3 t17 t18 t19) = l106_1 s106 n m t1 t2_0 t2_1 t3 t17 t18 t19) := by
  intro m
  induction m with
  | zero => exact fun _ _ _ _ _ _ _ => rfl
  | succ m ih =>
    intro t1 t2_0 t2_1 t3 t17 t18 t19
    have e1 : ∀ t1 t2_0 t2_1 t3 t17 t18 t19, F106.labX (bodyOf Try.f106) tabR tyR true (cs106 s106 n) (F106.labM (bodyOf Try.f106) tabR tyR true (cs106 s106 n) m) 2 1 (st106_1 t1 t2_0 t2_1 t3 t17 t18 t19) = (l106_1 s106 n m) t1 t2_0 t2_1 t3 t17 t18 t19 := fun t1 t2_0 t2_1 t3 t17 t18 t19 => (Fn.labX_loop _ _ _ _ _ _ _ _ _ _ (by kernel_rfl)).trans (ih t1 t2_0 t2_1 t3 t17 t18 t19)
    rw [Fn.labM_succ]
    show F106.labD (bodyOf Try.f106) tabR tyR true (cs106 s106 n) (F106.labM (bodyOf Try.f106) tabR tyR true (cs106 s106 n) m) (2 + 1) 1 _ = _
    rw [Fn.labD_succ, p106_1]
    simp only [e1]
    rfl
theorem w106 (s106 : Dv → Option Dv) (n : Nat) (x : PTs.den F106.ps) : F106.body (bodyOf Try.f106) tabR tyR true (cs106 s106 n) (F106.labX (bodyOf Try.f106) tabR tyR true (cs106 s106 n) (F106.labM (bodyOf Try.f106) tabR tyR true (cs106 s106 n) n) F106.D) x = o106_0 s106 n (l106_1 s106 n n) x.1 := by
  have e1 : ∀ t1 t2_0 t2_1 t3 t17 t18 t19, F106.labX (bodyOf Try.f106) tabR tyR true (cs106 s106 n) (F106.labM (bodyOf Try.f106) tabR tyR true (cs106 s106 n) n) 3 1 (st106_1 t1 t2_0 t2_1 t3 t17 t18 t19) = (l106_1 s106 n n) t1 t2_0 t2_1 t3 t17 t18 t19 := fun t1 t2_0 t2_1 t3 t17 t18 t19 => (Fn.labX_loop _ _ _ _ _ _ _ _ _ _ (by kernel_rfl)).trans ((m106_1 s106 n n) t1 t2_0 t2_1 t3 t17 t18 t19)
  show F106.body (bodyOf Try.f106) tabR tyR true (cs106 s106 n) (F106.labX (bodyOf Try.f106) tabR tyR true (cs106 s106 n) (F106.labM (bodyOf Try.f106) tabR tyR true (cs106 s106 n) n) 3) x = _
  rw [p106_0]
  simp only [e1]
  try rfl
theorem call106 : Callable Try.prog 106 := callable_of Try.func106 (by kernel_rfl) (by kernel_rfl)
theorem okr106 : ∀ n : Nat, Cal.Ok Try.prog ⟨106, F106.ps, F106.rs, F106.fr, fun a => f106 n a.1⟩
  | 0 => ⟨by kernel_rfl, fun a r h => by cases h⟩
  | n + 1 => cal_of_fn F106 (code := bodyOf Try.f106) Try.func106 (by kernel_rfl) (by kernel_rfl) call106 htabR (cs := cs106 (f106 n) n) (fun c hc => by
      simp only [cs106, List.mem_cons, List.not_mem_nil, or_false] at hc
      rcases hc with rfl
      · exact (okr106 n)) (fun _ => mixed) (by kernel_rfl) (by kernel_rfl) (by decide) (fun x => ⟨n, w106 (f106 n) n x⟩)
theorem ok106 (n : Nat) : Cal.Ok Try.prog ⟨106, F106.ps, F106.rs, F106.fr, fun a => f106 n a.1⟩ := (okr106 n)
-- tranship/deriv.At
def o35_0 (n : Nat) (k1 : Dv → Int → Int → (List Int) → Int → Int → Option (Dv × Bool)) (a0 : Dv) (a1 : List Int) : Option (Dv × Bool) :=
  k1 a0 (0 : Int) (0 : Int) a1 (a1.length : Int) (0 : Int)
def o35_1 (n : Nat) (k1 : Dv → Int → Int → (List Int) → Int → Int → Option (Dv × Bool)) (t2 : Dv) (t4_0 : Int) (t4_1 : Int) (t8 : List Int) (t9 : Int) (t10 : Int) : Option (Dv × Bool) :=
  if (decide (t10 < t9)) then
    atI t8 t10 fun x1 =>
    if (decide (x1 < (0 : Int))) then
      some ((Dv.mk (0 : Int) (0 : Int) ([] : List Dv)), false)
    else
      if (decide ((t2.kids.length : Int) ≤ x1)) then
        some ((Dv.mk (0 : Int) (0 : Int) ([] : List Dv)), false)
      else
        atI t2.kids x1 fun x2 =>
        ckI (t10 + (1 : Int)) <|
        k1 x2 t4_0 t4_1 t8 t9 (t10 + (1 : Int))
  else
    (f106 n t2).bind fun x3 =>
    some (x3, true)
def l35_1 (n : Nat) : Nat → Dv → Int → Int → (List Int) → Int → Int → Option (Dv × Bool)
  | 0, _, _, _, _, _, _ => none
  | m + 1, t2, t4_0, t4_1, t8, t9, t10 => o35_1 n (l35_1 n m) t2 t4_0 t4_1 t8 t9 t10
def f35 (n : Nat) (a0 : Dv) (a1 : List Int) : Option (Dv × Bool) := o35_0 n (l35_1 n n) a0 a1
def an35 : An := (.n none [] 0 .z (.n none [] 0 (.n none [] 0 .z (.n none [] 0 (.n (some 1) [(2, .ps 0 .dv false), (4, .p 1 [.c, .c, .k]), (8, .one (.d .int false)), (9, .one .c), (10, .one .c)] 2 .z .z) .z)) .z))
def F35 : Fn := { f := 35, a := an35, vars := [.cell 4 24, .tmp 5], ps := [.st .dv, .sl .int], rs := [.st .dv, .sc .bool], own := false, fr := true, nt := 32, D := 3, loops := [1] }
def cs35 (n : Nat) : List Cal := [⟨106, [.st .dv], [.st .dv], true, fun a => f106 n a.1⟩]
def st35_1 (t2 : Dv) (t4_0 : Int) (t4_1 : Int) (t8 : List Int) (t9 : Int) (t10 : Int) : SS := ⟨[(2, .v (.one (.ptr 0 0))), (4, .v (.one (.ptr 1 0))), (8, .v (.one (.c (.sl .int t8) false))), (9, .v (.one (.c (.int t9) true))), (10, .v (.one (.c (.int t10) true)))], [(0, some (.bst .dv t2 false)), (1, some (.box [.c (.int t4_0) true, .c (.int t4_1) true, .nils]))], 2⟩
theorem p35_0 (n : Nat) (lab : Nat → SS → Option (RT.den F35.rs)) (x : PTs.den F35.ps) : F35.body (bodyOf Try.f35) tabR tyR true (cs35 n) lab x = o35_0 n (fun t2 t4_0 t4_1 t8 t9 t10 => lab 1 (st35_1 t2 t4_0 t4_1 t8 t9 t10)) x.1 x.2.1 := by kernel_rfl
theorem p35_1 (n : Nat) (lab : Nat → SS → Option (RT.den F35.rs)) (t2 : Dv) (t4_0 : Int) (t4_1 : Int) (t8 : List Int) (t9 : Int) (t10 : Int) : F35.at (bodyOf Try.f35) tabR tyR true (cs35 n) lab 1 (st35_1 t2 t4_0 t4_1 t8 t9 t10) = o35_1 n (fun t2 t4_0 t4_1 t8 t9 t10 => lab 1 (st35_1 t2 t4_0 t4_1 t8 t9 t10)) t2 t4_0 t4_1 t8 t9 t10 := by kernel_rfl
theorem m35_1 (n : Nat) : ∀ m : Nat, (∀ t2 t4_0 t4_1 t8 t9 t10, F35.labM (bodyOf Try.f35) tabR tyR true (cs35 n) m 1 (st35_1 t2 t4_0 t4_1 t8 t9 t10) = l35_1 n m t2 t4_0 t4_1 t8 t9 t10) := by
  intro m
  induction m with
  | zero => exact fun _ _ _ _ _ _ => rfl
  | succ m ih =>
    intro t2 t4_0 t4_1 t8 t9 t10
    have e1 : ∀ t2 t4_0 t4_1 t8 t9 t10, F35.labX (bodyOf Try.f35) tabR tyR true (cs35 n) (F35.labM (bodyOf Try.f35) tabR tyR true (cs35 n) m) 2 1 (st35_1 t2 t4_0 t4_1 t8 t9 t10) = (l35_1 n m) t2 t4_0 t4_1 t8 t9 t10 := fun t2 t4_0 t4_1 t8 t9 t10 => (Fn.labX_loop _ _ _ _ _ _ _ _ _ _ (by kernel_rfl)).trans (ih t2 t4_0 t4_1 t8 t9 t10)
    rw [Fn.labM_succ]
    show F35.labD (bodyOf Try.f35) tabR tyR true (cs35 n) (F35.labM (bodyOf Try.f35) tabR tyR true (cs35 n) m) (2 + 1) 1 _ = _
    rw [Fn.labD_succ, p35_1]
    simp only [e1]
    rfl
theorem w35 (n : Nat) (x : PTs.den F35.ps) : F35.body (bodyOf Try.f35) tabR tyR true (cs35 n) (F35.labX (bodyOf Try.f35) tabR tyR true (cs35 n) (F35.labM (bodyOf Try.f35) tabR tyR true (cs35 n) n) F35.D) x = o35_0 n (l35_1 n n) x.1 x.2.1 := by
  have e1 : ∀ t2 t4_0 t4_1 t8 t9 t10, F35.labX (bodyOf Try.f35) tabR tyR true (cs35 n) (F35.labM (bodyOf Try.f35) tabR tyR true (cs35 n) n) 3 1 (st35_1 t2 t4_0 t4_1 t8 t9 t10) = (l35_1 n n) t2 t4_0 t4_1 t8 t9 t10 := fun t2 t4_0 t4_1 t8 t9 t10 => (Fn.labX_loop _ _ _ _ _ _ _ _ _ _ (by kernel_rfl)).trans ((m35_1 n n) t2 t4_0 t4_1 t8 t9 t10)
  show F35.body (bodyOf Try.f35) tabR tyR true (cs35 n) (F35.labX (bodyOf Try.f35) tabR tyR true (cs35 n) (F35.labM (bodyOf Try.f35) tabR tyR true (cs35 n) n) 3) x = _
  rw [p35_0]
  simp only [e1]
  try rfl
theorem call35 : Callable Try.prog 35 := callable_of Try.func35 (by kernel_rfl) (by kernel_rfl)
theorem ok35 (n : Nat) : Cal.Ok Try.prog ⟨35, F35.ps, F35.rs, F35.fr, fun a => f35 n a.1 a.2.1⟩ :=
  cal_of_fn F35 (code := bodyOf Try.f35) Try.func35 (by kernel_rfl) (by kernel_rfl) call35 htabR (cs := cs35 n) (fun c hc => by
      simp only [cs35, List.mem_cons, List.not_mem_nil, or_false] at hc
      rcases hc with rfl
      · exact ok106 n) (fun _ => mixed) (by kernel_rfl) (by kernel_rfl) (by decide) (fun x => ⟨n, w35 n x⟩)
-- tranship/transhipref11.Node
def o36_0 (n : Nat) (k1 : (List Int) → Dv → Int → Int → Int → Option (Dv × Bool)) (a0 : Dv) (a1 : List Int) : Option (Dv × Bool) :=
  k1 a1 a0 (0 : Int) (0 : Int) (0 : Int)
def o36_1 (n : Nat) (k2 : (List Int) → Dv → Int → Int → Int → Option (Dv × Bool)) (t1 : List Int) (t2 : Dv) (t4_0 : Int) (t4_1 : Int) (t6 : Int) : Option (Dv × Bool) :=
  if (decide (t6 < (t1.length : Int))) then
    atI t1 t6 fun x1 =>
    if (decide (x1 < (0 : Int))) then
      some ((Dv.mk (0 : Int) (0 : Int) ([] : List Dv)), false)
    else
      atI t1 t6 fun x2 =>
      if (decide ((t2.kids.length : Int) ≤ x2)) then
        some ((Dv.mk (0 : Int) (0 : Int) ([] : List Dv)), false)
      else
        k2 t1 t2 t4_0 t4_1 t6
  else
    some (t2, true)
def o36_2 (n : Nat) (k1 : (List Int) → Dv → Int → Int → Int → Option (Dv × Bool)) (t1 : List Int) (t2 : Dv) (t4_0 : Int) (t4_1 : Int) (t6 : Int) : Option (Dv × Bool) :=
  atI t1 t6 fun x3 =>
  atI t2.kids x3 fun x4 =>
  ckI (t6 + (1 : Int)) <|
  k1 t1 x4 t4_0 t4_1 (t6 + (1 : Int))
def c36_2 (n : Nat) (k1 : (List Int) → Dv → Int → Int → Int → Option (Dv × Bool)) (t1 : List Int) (t2 : Dv) (t4_0 : Int) (t4_1 : Int) (t6 : Int) : Option (Dv × Bool) :=
  o36_2 n k1 t1 t2 t4_0 t4_1 t6
def l36_1 (n : Nat) : Nat → (List Int) → Dv → Int → Int → Int → Option (Dv × Bool)
  | 0, _, _, _, _, _ => none
  | m + 1, t1, t2, t4_0, t4_1, t6 => o36_1 n (c36_2 n (l36_1 n m)) t1 t2 t4_0 t4_1 t6
def f36 (n : Nat) (a0 : Dv) (a1 : List Int) : Option (Dv × Bool) := o36_0 n (l36_1 n n) a0 a1
def an36 : An := (.n none [] 0 .z (.n none [] 0 (.n none [] 0 .z (.n none [] 0 (.n (some 1) [(1, .one (.d .int false)), (2, .ps 0 .dv false), (4, .p 1 [.c, .c, .k]), (6, .one .c)] 2 (.n none [] 0 .z (.n none [] 0 (.n none [] 0 (.n (some 2) [(1, .one (.d .int false)), (2, .ps 0 .dv false), (4, .p 1 [.c, .c, .k]), (6, .one .c)] 2 .z .z) .z) .z)) .z) .z)) .z))
def F36 : Fn := { f := 36, a := an36, vars := [.cell 4 24, .tmp 5], ps := [.st .dv, .sl .int], rs := [.st .dv, .sc .bool], own := false, fr := false, nt := 38, D := 4, loops := [1] }
def cs36 (n : Nat) : List Cal := []
def st36_1 (t1 : List Int) (t2 : Dv) (t4_0 : Int) (t4_1 : Int) (t6 : Int) : SS := ⟨[(1, .v (.one (.c (.sl .int t1) false))), (2, .v (.one (.ptr 0 0))), (4, .v (.one (.ptr 1 0))), (6, .v (.one (.c (.int t6) true)))], [(0, some (.bst .dv t2 false)), (1, some (.box [.c (.int t4_0) true, .c (.int t4_1) true, .nils]))], 2⟩
def st36_2 (t1 : List Int) (t2 : Dv) (t4_0 : Int) (t4_1 : Int) (t6 : Int) : SS := ⟨[(1, .v (.one (.c (.sl .int t1) false))), (2, .v (.one (.ptr 0 0))), (4, .v (.one (.ptr 1 0))), (6, .v (.one (.c (.int t6) true)))], [(0, some (.bst .dv t2 false)), (1, some (.box [.c (.int t4_0) true, .c (.int t4_1) true, .nils]))], 2⟩
theorem p36_0 (n : Nat) (lab : Nat → SS → Option (RT.den F36.rs)) (x : PTs.den F36.ps) : F36.body (bodyOf Try.f36) tabR tyR true (cs36 n) lab x = o36_0 n (fun t1 t2 t4_0 t4_1 t6 => lab 1 (st36_1 t1 t2 t4_0 t4_1 t6)) x.1 x.2.1 := by kernel_rfl
theorem p36_1 (n : Nat) (lab : Nat → SS → Option (RT.den F36.rs)) (t1 : List Int) (t2 : Dv) (t4_0 : Int) (t4_1 : Int) (t6 : Int) : F36.at (bodyOf Try.f36) tabR tyR true (cs36 n) lab 1 (st36_1 t1 t2 t4_0 t4_1 t6) = o36_1 n (fun t1 t2 t4_0 t4_1 t6 => lab 2 (st36_2 t1 t2 t4_0 t4_1 t6)) t1 t2 t4_0 t4_1 t6 := by kernel_rfl
theorem p36_2 (n : Nat) (lab : Nat → SS → Option (RT.den F36.rs)) (t1 : List Int) (t2 : Dv) (t4_0 : Int) (t4_1 : Int) (t6 : Int) : F36.at (bodyOf Try.f36) tabR tyR true (cs36 n) lab 2 (st36_2 t1 t2 t4_0 t4_1 t6) = o36_2 n (fun t1 t2 t4_0 t4_1 t6 => lab 1 (st36_1 t1 t2 t4_0 t4_1 t6)) t1 t2 t4_0 t4_1 t6 := by kernel_rfl
theorem n36_2 (n : Nat) (rec : Nat → SS → Option (RT.den F36.rs)) (k1 : (List Int) → Dv → Int → Int → Int → Option (Dv × Bool)) (h1 : ∀ t1 t2 t4_0 t4_1 t6, rec 1 (st36_1 t1 t2 t4_0 t4_1 t6) = k1 t1 t2 t4_0 t4_1 t6) (d : Nat) (t1 : List Int) (t2 : Dv) (t4_0 : Int) (t4_1 : Int) (t6 : Int) : F36.labD (bodyOf Try.f36) tabR tyR true (cs36 n) rec (d + 1) 2 (st36_2 t1 t2 t4_0 t4_1 t6) = c36_2 n k1 t1 t2 t4_0 t4_1 t6 := by
  have e1 : ∀ t1 t2 t4_0 t4_1 t6, F36.labX (bodyOf Try.f36) tabR tyR true (cs36 n) rec d 1 (st36_1 t1 t2 t4_0 t4_1 t6) = k1 t1 t2 t4_0 t4_1 t6 := fun t1 t2 t4_0 t4_1 t6 => (Fn.labX_loop _ _ _ _ _ _ _ _ _ _ (by kernel_rfl)).trans (h1 t1 t2 t4_0 t4_1 t6)
  show F36.labD (bodyOf Try.f36) tabR tyR true (cs36 n) rec (d + 1) 2 _ = _
  rw [Fn.labD_succ, p36_2]
  simp only [e1]
  rfl
theorem m36_1 (n : Nat) : ∀ m : Nat, (∀ t1 t2 t4_0 t4_1 t6, F36.labM (bodyOf Try.f36) tabR tyR true (cs36 n) m 1 (st36_1 t1 t2 t4_0 t4_1 t6) = l36_1 n m t1 t2 t4_0 t4_1 t6) := by
  intro m
  induction m with
  | zero => exact fun _ _ _ _ _ => rfl
  | succ m ih =>
    intro t1 t2 t4_0 t4_1 t6
    have e2 : ∀ t1 t2 t4_0 t4_1 t6, F36.labX (bodyOf Try.f36) tabR tyR true (cs36 n) (F36.labM (bodyOf Try.f36) tabR tyR true (cs36 n) m) 3 2 (st36_2 t1 t2 t4_0 t4_1 t6) = c36_2 n (l36_1 n m) t1 t2 t4_0 t4_1 t6 := fun t1 t2 t4_0 t4_1 t6 => (Fn.labX_step _ _ _ _ _ _ _ _ _ _ (by kernel_rfl)).trans (n36_2 n (F36.labM (bodyOf Try.f36) tabR tyR true (cs36 n) m) (l36_1 n m) ih 2 t1 t2 t4_0 t4_1 t6)
    rw [Fn.labM_succ]
    show F36.labD (bodyOf Try.f36) tabR tyR true (cs36 n) (F36.labM (bodyOf Try.f36) tabR tyR true (cs36 n) m) (3 + 1) 1 _ = _
    rw [Fn.labD_succ, p36_1]
    simp only [e2]
    rfl
theorem w36 (n : Nat) (x : PTs.den F36.ps) : F36.body (bodyOf Try.f36) tabR tyR true (cs36 n) (F36.labX (bodyOf Try.f36) tabR tyR true (cs36 n) (F36.labM (bodyOf Try.f36) tabR tyR true (cs36 n) n) F36.D) x = o36_0 n (l36_1 n n) x.1 x.2.1 := by
  have e1 : ∀ t1 t2 t4_0 t4_1 t6, F36.labX (bodyOf Try.f36) tabR tyR true (cs36 n) (F36.labM (bodyOf Try.f36) tabR tyR true (cs36 n) n) 4 1 (st36_1 t1 t2 t4_0 t4_1 t6) = (l36_1 n n) t1 t2 t4_0 t4_1 t6 := fun t1 t2 t4_0 t4_1 t6 => (Fn.labX_loop _ _ _ _ _ _ _ _ _ _ (by kernel_rfl)).trans ((m36_1 n n) t1 t2 t4_0 t4_1 t6)
  show F36.body (bodyOf Try.f36) tabR tyR true (cs36 n) (F36.labX (bodyOf Try.f36) tabR tyR true (cs36 n) (F36.labM (bodyOf Try.f36) tabR tyR true (cs36 n) n) 4) x = _
  rw [p36_0]
  simp only [e1]
  try rfl
theorem call36 : Callable Try.prog 36 := callable_of Try.func36 (by kernel_rfl) (by kernel_rfl)
theorem ok36 (n : Nat) : Cal.Ok Try.prog ⟨36, F36.ps, F36.rs, F36.fr, fun a => f36 n a.1 a.2.1⟩ :=
  cal_of_fn F36 (code := bodyOf Try.f36) Try.func36 (by kernel_rfl) (by kernel_rfl) call36 htabR (cs := cs36 n) (fun c hc => by simp only [cs36, List.not_mem_nil] at hc) (fun _ => mixed) (by kernel_rfl) (by kernel_rfl) (by decide) (fun x => ⟨n, w36 n x⟩)
-- tranship/deriv.Kids
def o46_0 (k1 : Int → Bool → Option Int) (a0 : Int) : Option Int :=
  if (decide (a0 = (1 : Int))) then
    k1 a0 (decide (a0 = (1 : Int)))
  else
    k1 a0 (decide (a0 = (2 : Int)))
def o46_1 (k2 : Int → Bool → Option Int) (t3 : Int) (t4 : Bool) : Option Int :=
  if t4 then
    some (0 : Int)
  else
    if (decide (t3 = (8 : Int))) then
      k2 t3 (decide (t3 = (8 : Int)))
    else
      if (decide (t3 = (9 : Int))) then
        k2 t3 (decide (t3 = (9 : Int)))
      else
        if (decide (t3 = (21 : Int))) then
          k2 t3 (decide (t3 = (21 : Int)))
        else
          if (decide (t3 = (22 : Int))) then
            k2 t3 (decide (t3 = (22 : Int)))
          else
            if (decide (t3 = (17 : Int))) then
              k2 t3 (decide (t3 = (17 : Int)))
            else
              if (decide (t3 = (11 : Int))) then
                k2 t3 (decide (t3 = (11 : Int)))
              else
                if (decide (t3 = (13 : Int))) then
                  k2 t3 (decide (t3 = (13 : Int)))
                else
                  k2 t3 (decide (t3 = (14 : Int)))
def o46_2 (k3 : Int → Bool → Option Int) (t3 : Int) (t7 : Bool) : Option Int :=
  if t7 then
    some (1 : Int)
  else
    if (decide (t3 = (3 : Int))) then
      k3 t3 (decide (t3 = (3 : Int)))
    else
      if (decide (t3 = (6 : Int))) then
        k3 t3 (decide (t3 = (6 : Int)))
      else
        if (decide (t3 = (4 : Int))) then
          k3 t3 (decide (t3 = (4 : Int)))
        else
          if (decide (t3 = (5 : Int))) then
            k3 t3 (decide (t3 = (5 : Int)))
          else
            if (decide (t3 = (10 : Int))) then
              k3 t3 (decide (t3 = (10 : Int)))
            else
              if (decide (t3 = (12 : Int))) then
                k3 t3 (decide (t3 = (12 : Int)))
              else
                if (decide (t3 = (15 : Int))) then
                  k3 t3 (decide (t3 = (15 : Int)))
                else
                  if (decide (t3 = (16 : Int))) then
                    k3 t3 (decide (t3 = (16 : Int)))
                  else
                    if (decide (t3 = (24 : Int))) then
                      k3 t3 (decide (t3 = (24 : Int)))
                    else
                      if (decide (t3 = (18 : Int))) then
                        k3 t3 (decide (t3 = (18 : Int)))
                      else
                        if (decide (t3 = (23 : Int))) then
                          k3 t3 (decide (t3 = (23 : Int)))
                        else
                          if (decide (t3 = (25 : Int))) then
                            k3 t3 (decide (t3 = (25 : Int)))
                          else
                            k3 t3 (decide (t3 = (26 : Int)))
def o46_3 (t3 : Int) (t16 : Bool) : Option Int :=
  if t16 then
    some (2 : Int)
  else
    if (decide (t3 = (7 : Int))) then
      if (decide (t3 = (7 : Int))) then
        some (3 : Int)
      else
        if (decide (t3 = (28 : Int))) then
          some (4 : Int)
        else
          some (-1 : Int)
    else
      if (decide (t3 = (19 : Int))) then
        if (decide (t3 = (19 : Int))) then
          some (3 : Int)
        else
          if (decide (t3 = (28 : Int))) then
            some (4 : Int)
          else
            some (-1 : Int)
      else
        if (decide (t3 = (20 : Int))) then
          if (decide (t3 = (20 : Int))) then
            some (3 : Int)
          else
            if (decide (t3 = (28 : Int))) then
              some (4 : Int)
            else
              some (-1 : Int)
        else
          if (decide (t3 = (27 : Int))) then
            some (3 : Int)
          else
            if (decide (t3 = (28 : Int))) then
              some (4 : Int)
            else
              some (-1 : Int)
def c46_3 (t3 : Int) (t16 : Bool) : Option Int :=
  o46_3 t3 t16
def c46_2 (t3 : Int) (t7 : Bool) : Option Int :=
  o46_2 (c46_3) t3 t7
def c46_1 (t3 : Int) (t4 : Bool) : Option Int :=
  o46_1 (c46_2) t3 t4
def f46 (a0 : Int) : Option Int := o46_0 (c46_1) a0
def an46 : An := (.n none [] 0 .z (.n none [] 0 (.n none [] 0 .z (.n none [] 0 (.n (some 1) [(3, .one .c), (4, .one .c)] 0 .z (.n none [] 0 .z (.n (some 2) [(3, .one .c), (7, .one .c)] 0 .z (.n none [] 0 .z (.n (some 3) [(3, .one .c), (16, .one .c)] 0 .z .z))))) .z)) .z))
def F46 : Fn := { f := 46, a := an46, vars := [.tmp 2], ps := [.sc .int], rs := [.sc .int], own := false, fr := true, nt := 37, D := 5, loops := [] }
def cs46 : List Cal := []
def st46_1 (t3 : Int) (t4 : Bool) : SS := ⟨[(3, .v (.one (.c (.int t3) true))), (4, .v (.one (.c (.bool t4) true)))], [], 0⟩
def st46_2 (t3 : Int) (t7 : Bool) : SS := ⟨[(3, .v (.one (.c (.int t3) true))), (7, .v (.one (.c (.bool t7) true)))], [], 0⟩
def st46_3 (t3 : Int) (t16 : Bool) : SS := ⟨[(3, .v (.one (.c (.int t3) true))), (16, .v (.one (.c (.bool t16) true)))], [], 0⟩
theorem p46_0 (lab : Nat → SS → Option (RT.den F46.rs)) (x : PTs.den F46.ps) : F46.body (bodyOf Try.f46) tabR tyR true cs46 lab x = o46_0 (fun t3 t4 => lab 1 (st46_1 t3 t4)) x.1 := by kernel_rfl
theorem p46_1 (lab : Nat → SS → Option (RT.den F46.rs)) (t3 : Int) (t4 : Bool) : F46.at (bodyOf Try.f46) tabR tyR true cs46 lab 1 (st46_1 t3 t4) = o46_1 (fun t3 t7 => lab 2 (st46_2 t3 t7)) t3 t4 := by kernel_rfl
theorem p46_2 (lab : Nat → SS → Option (RT.den F46.rs)) (t3 : Int) (t7 : Bool) : F46.at (bodyOf Try.f46) tabR tyR true cs46 lab 2 (st46_2 t3 t7) = o46_2 (fun t3 t16 => lab 3 (st46_3 t3 t16)) t3 t7 := by kernel_rfl
theorem p46_3 (lab : Nat → SS → Option (RT.den F46.rs)) (t3 : Int) (t16 : Bool) : F46.at (bodyOf Try.f46) tabR tyR true cs46 lab 3 (st46_3 t3 t16) = o46_3 t3 t16 := by kernel_rfl
theorem n46_3 (rec : Nat → SS → Option (RT.den F46.rs)) (d : Nat) (t3 : Int) (t16 : Bool) : F46.labD (bodyOf Try.f46) tabR tyR true cs46 rec (d + 1) 3 (st46_3 t3 t16) = c46_3 t3 t16 := by
  show F46.labD (bodyOf Try.f46) tabR tyR true cs46 rec (d + 1) 3 _ = _
  rw [Fn.labD_succ, p46_3]
  rfl
theorem n46_2 (rec : Nat → SS → Option (RT.den F46.rs)) (d : Nat) (t3 : Int) (t7 : Bool) : F46.labD (bodyOf Try.f46) tabR tyR true cs46 rec (d + 2) 2 (st46_2 t3 t7) = c46_2 t3 t7 := by
  have e3 : ∀ t3 t16, F46.labX (bodyOf Try.f46) tabR tyR true cs46 rec (d + 1) 3 (st46_3 t3 t16) = c46_3 t3 t16 := fun t3 t16 => (Fn.labX_step _ _ _ _ _ _ _ _ _ _ (by kernel_rfl)).trans (n46_3 rec d t3 t16)
  show F46.labD (bodyOf Try.f46) tabR tyR true cs46 rec ((d + 1) + 1) 2 _ = _
  rw [Fn.labD_succ, p46_2]
  simp only [e3]
  rfl
theorem n46_1 (rec : Nat → SS → Option (RT.den F46.rs)) (d : Nat) (t3 : Int) (t4 : Bool) : F46.labD (bodyOf Try.f46) tabR tyR true cs46 rec (d + 3) 1 (st46_1 t3 t4) = c46_1 t3 t4 := by
  have e2 : ∀ t3 t7, F46.labX (bodyOf Try.f46) tabR tyR true cs46 rec (d + 2) 2 (st46_2 t3 t7) = c46_2 t3 t7 := fun t3 t7 => (Fn.labX_step _ _ _ _ _ _ _ _ _ _ (by kernel_rfl)).trans (n46_2 rec d t3 t7)
  show F46.labD (bodyOf Try.f46) tabR tyR true cs46 rec ((d + 2) + 1) 1 _ = _
  rw [Fn.labD_succ, p46_1]
  simp only [e2]
  rfl
theorem w46 (x : PTs.den F46.ps) : F46.body (bodyOf Try.f46) tabR tyR true cs46 (F46.labX (bodyOf Try.f46) tabR tyR true cs46 (F46.labM (bodyOf Try.f46) tabR tyR true cs46 0) F46.D) x = o46_0 (c46_1) x.1 := by
  have e1 : ∀ t3 t4, F46.labX (bodyOf Try.f46) tabR tyR true cs46 (F46.labM (bodyOf Try.f46) tabR tyR true cs46 0) 5 1 (st46_1 t3 t4) = c46_1 t3 t4 := fun t3 t4 => (Fn.labX_step _ _ _ _ _ _ _ _ _ _ (by kernel_rfl)).trans (n46_1 (F46.labM (bodyOf Try.f46) tabR tyR true cs46 0) 2 t3 t4)
  show F46.body (bodyOf Try.f46) tabR tyR true cs46 (F46.labX (bodyOf Try.f46) tabR tyR true cs46 (F46.labM (bodyOf Try.f46) tabR tyR true cs46 0) 5) x = _
  rw [p46_0]
  simp only [e1]
  try rfl
theorem call46 : Callable Try.prog 46 := callable_of Try.func46 (by kernel_rfl) (by kernel_rfl)
theorem ok46 : Cal.Ok Try.prog ⟨46, F46.ps, F46.rs, F46.fr, fun a => f46 a.1⟩ :=
  cal_of_fn F46 (code := bodyOf Try.f46) Try.func46 (by kernel_rfl) (by kernel_rfl) call46 htabR (cs := cs46) (fun c hc => by simp only [cs46, List.not_mem_nil] at hc) (fun _ => mixed) (by kernel_rfl) (by kernel_rfl) (by decide) (fun x => ⟨0, w46 x⟩)
-- tranship/deriv.Right
def o37_0 (s37 : Dv → Option Bool) (n : Nat) (k1 : Dv → Option Bool) (a0 : Dv) : Option Bool :=
  (f46 a0.rule).bind fun x1 =>
  if (!decide (x1 = (a0.kids.length : Int))) then
    some false
  else
    if (decide (a0.i < (0 : Int))) then
      some false
    else
      if (decide ((1000000 : Int) < a0.i)) then
        some false
      else
        if (!decide (a0.i = (0 : Int))) then
          if (!decide (a0.rule = (1 : Int))) then
            if (!decide (a0.rule = (2 : Int))) then
              some false
            else
              k1 a0
          else
            k1 a0
        else
          k1 a0
def o37_1 (s37 : Dv → Option Bool) (n : Nat) (k2 : (List Dv) → Int → Int → Option Bool) (t1 : Dv) : Option Bool :=
  k2 t1.kids (t1.kids.length : Int) (0 : Int)
def o37_2 (s37 : Dv → Option Bool) (n : Nat) (k2 : (List Dv) → Int → Int → Option Bool) (t38 : List Dv) (t39 : Int) (t40 : Int) : Option Bool :=
  if (decide (t40 < t39)) then
    atI t38 t40 fun x2 =>
    (s37 x2).bind fun x3 =>
    if (!x3) then
      some false
    else
      ckI (t40 + (1 : Int)) <|
      k2 t38 t39 (t40 + (1 : Int))
  else
    some true
def c37_1 (s37 : Dv → Option Bool) (n : Nat) (k2 : (List Dv) → Int → Int → Option Bool) (t1 : Dv) : Option Bool :=
  o37_1 s37 n k2 t1
def l37_2 (s37 : Dv → Option Bool) (n : Nat) : Nat → (List Dv) → Int → Int → Option Bool
  | 0, _, _, _ => none
  | m + 1, t38, t39, t40 => o37_2 s37 n (l37_2 s37 n m) t38 t39 t40
def f37 : Nat → Dv → Option Bool
  | 0, _ => none
  | n + 1, a0 => o37_0 (f37 n) n (c37_1 (f37 n) n (l37_2 (f37 n) n n)) a0
def an37 : An := (.n none [] 0 .z (.n (some 1) [(1, .ps 0 .dv false)] 1 .z (.n none [] 0 (.n none [] 0 .z (.n none [] 0 (.n (some 2) [(38, .one (.d .dv false)), (39, .one .c), (40, .one .c)] 0 .z .z) .z)) .z)))
def F37 : Fn := { f := 37, a := an37, vars := [.tmp 2], ps := [.st .dv], rs := [.sc .bool], own := false, fr := true, nt := 48, D := 4, loops := [2] }
def cs37 (s37 : Dv → Option Bool) (n : Nat) : List Cal := [⟨37, [.st .dv], [.sc .bool], true, fun a => s37 a.1⟩, ⟨46, [.sc .int], [.sc .int], true, fun a => f46 a.1⟩]
def st37_1 (t1 : Dv) : SS := ⟨[(1, .v (.one (.ptr 0 0)))], [(0, some (.bst .dv t1 false))], 1⟩
def st37_2 (t38 : List Dv) (t39 : Int) (t40 : Int) : SS := ⟨[(38, .v (.one (.c (.sl .dv t38) false))), (39, .v (.one (.c (.int t39) true))), (40, .v (.one (.c (.int t40) true)))], [], 0⟩
theorem p37_0 (s37 : Dv → Option Bool) (n : Nat) (lab : Nat → SS → Option (RT.den F37.rs)) (x : PTs.den F37.ps) : F37.body (bodyOf Try.f37) tabR tyR true (cs37 s37 n) lab x = o37_0 s37 n (fun t1 => lab 1 (st37_1 t1)) x.1 := by kernel_rfl
theorem p37_1 (s37 : Dv → Option Bool) (n : Nat) (lab : Nat → SS → Option (RT.den F37.rs)) (t1 : Dv) : F37.at (bodyOf Try.f37) tabR tyR true (cs37 s37 n) lab 1 (st37_1 t1) = o37_1 s37 n (fun t38 t39 t40 => lab 2 (st37_2 t38 t39 t40)) t1 := by kernel_rfl
theorem p37_2 (s37 : Dv → Option Bool) (n : Nat) (lab : Nat → SS → Option (RT.den F37.rs)) (t38 : List Dv) (t39 : Int) (t40 : Int) : F37.at (bodyOf Try.f37) tabR tyR true (cs37 s37 n) lab 2 (st37_2 t38 t39 t40) = o37_2 s37 n (fun t38 t39 t40 => lab 2 (st37_2 t38 t39 t40)) t38 t39 t40 := by kernel_rfl
theorem n37_1 (s37 : Dv → Option Bool) (n : Nat) (rec : Nat → SS → Option (RT.den F37.rs)) (k2 : (List Dv) → Int → Int → Option Bool) (h2 : ∀ t38 t39 t40, rec 2 (st37_2 t38 t39 t40) = k2 t38 t39 t40) (d : Nat) (t1 : Dv) : F37.labD (bodyOf Try.f37) tabR tyR true (cs37 s37 n) rec (d + 1) 1 (st37_1 t1) = c37_1 s37 n k2 t1 := by
  have e2 : ∀ t38 t39 t40, F37.labX (bodyOf Try.f37) tabR tyR true (cs37 s37 n) rec d 2 (st37_2 t38 t39 t40) = k2 t38 t39 t40 := fun t38 t39 t40 => (Fn.labX_loop _ _ _ _ _ _ _ _ _ _ (by kernel_rfl)).trans (h2 t38 t39 t40)
  show F37.labD (bodyOf Try.f37) tabR tyR true (cs37 s37 n) rec (d + 1) 1 _ = _
  rw [Fn.labD_succ, p37_1]
  simp only [e2]
  rfl
theorem m37_2 (s37 : Dv → Option Bool) (n : Nat) : ∀ m : Nat, (∀ t38 t39 t40, F37.labM (bodyOf Try.f37) tabR tyR true (cs37 s37 n) m 2 (st37_2 t38 t39 t40) = l37_2 s37 n m t38 t39 t40) := by
  intro m
  induction m with
  | zero => exact fun _ _ _ => rfl
  | succ m ih =>
    intro t38 t39 t40
    have e2 : ∀ t38 t39 t40, F37.labX (bodyOf Try.f37) tabR tyR true (cs37 s37 n) (F37.labM (bodyOf Try.f37) tabR tyR true (cs37 s37 n) m) 3 2 (st37_2 t38 t39 t40) = (l37_2 s37 n m) t38 t39 t40 := fun t38 t39 t40 => (Fn.labX_loop _ _ _ _ _ _ _ _ _ _ (by kernel_rfl)).trans (ih t38 t39 t40)
    rw [Fn.labM_succ]
    show F37.labD (bodyOf Try.f37) tabR tyR true (cs37 s37 n) (F37.labM (bodyOf Try.f37) tabR tyR true (cs37 s37 n) m) (3 + 1) 2 _ = _
    rw [Fn.labD_succ, p37_2]
    simp only [e2]
    rfl
theorem w37 (s37 : Dv → Option Bool) (n : Nat) (x : PTs.den F37.ps) : F37.body (bodyOf Try.f37) tabR tyR true (cs37 s37 n) (F37.labX (bodyOf Try.f37) tabR tyR true (cs37 s37 n) (F37.labM (bodyOf Try.f37) tabR tyR true (cs37 s37 n) n) F37.D) x = o37_0 s37 n (c37_1 s37 n (l37_2 s37 n n)) x.1 := by
  have e1 : ∀ t1, F37.labX (bodyOf Try.f37) tabR tyR true (cs37 s37 n) (F37.labM (bodyOf Try.f37) tabR tyR true (cs37 s37 n) n) 4 1 (st37_1 t1) = c37_1 s37 n (l37_2 s37 n n) t1 := fun t1 => (Fn.labX_step _ _ _ _ _ _ _ _ _ _ (by kernel_rfl)).trans (n37_1 s37 n (F37.labM (bodyOf Try.f37) tabR tyR true (cs37 s37 n) n) (l37_2 s37 n n) (m37_2 s37 n n) 3 t1)
  show F37.body (bodyOf Try.f37) tabR tyR true (cs37 s37 n) (F37.labX (bodyOf Try.f37) tabR tyR true (cs37 s37 n) (F37.labM (bodyOf Try.f37) tabR tyR true (cs37 s37 n) n) 4) x = _
  rw [p37_0]
  simp only [e1]
  try rfl
theorem call37 : Callable Try.prog 37 := callable_of Try.func37 (by kernel_rfl) (by kernel_rfl)
theorem okr37 : ∀ n : Nat, Cal.Ok Try.prog ⟨37, F37.ps, F37.rs, F37.fr, fun a => f37 n a.1⟩
  | 0 => ⟨by kernel_rfl, fun a r h => by cases h⟩
  | n + 1 => cal_of_fn F37 (code := bodyOf Try.f37) Try.func37 (by kernel_rfl) (by kernel_rfl) call37 htabR (cs := cs37 (f37 n) n) (fun c hc => by
      simp only [cs37, List.mem_cons, List.not_mem_nil, or_false] at hc
      rcases hc with rfl | rfl
      · exact (okr37 n)
      · exact ok46) (fun _ => mixed) (by kernel_rfl) (by kernel_rfl) (by decide) (fun x => ⟨n, w37 (f37 n) n x⟩)
theorem ok37 (n : Nat) : Cal.Ok Try.prog ⟨37, F37.ps, F37.rs, F37.fr, fun a => f37 n a.1⟩ := (okr37 n)
-- tranship/transhipref11.Kids
def o47_0 (a0 : Int) : Option Int :=
  if (decide (a0 < (1 : Int))) then
    some (-1 : Int)
  else
    if (decide (([(0 : Int), (0 : Int), (2 : Int), (2 : Int), (2 : Int), (2 : Int), (3 : Int), (1 : Int), (1 : Int), (2 : Int), (1 : Int), (2 : Int), (1 : Int), (1 : Int), (2 : Int), (2 : Int), (1 : Int), (2 : Int), (3 : Int), (3 : Int), (1 : Int), (1 : Int), (2 : Int), (2 : Int), (2 : Int), (2 : Int), (3 : Int), (4 : Int)].length : Int) < a0)) then
      some (-1 : Int)
    else
      ckI (a0 - (1 : Int)) <|
      ckB (decide (0 ≤ (a0 - (1 : Int))) && decide ((a0 - (1 : Int)) < [(0 : Int), (0 : Int), (2 : Int), (2 : Int), (2 : Int), (2 : Int), (3 : Int), (1 : Int), (1 : Int), (2 : Int), (1 : Int), (2 : Int), (1 : Int), (1 : Int), (2 : Int), (2 : Int), (1 : Int), (2 : Int), (3 : Int), (3 : Int), (1 : Int), (1 : Int), (2 : Int), (2 : Int), (2 : Int), (2 : Int), (3 : Int), (4 : Int)].length)) <|
      atN [(0 : Int), (0 : Int), (2 : Int), (2 : Int), (2 : Int), (2 : Int), (3 : Int), (1 : Int), (1 : Int), (2 : Int), (1 : Int), (2 : Int), (1 : Int), (1 : Int), (2 : Int), (2 : Int), (1 : Int), (2 : Int), (3 : Int), (3 : Int), (1 : Int), (1 : Int), (2 : Int), (2 : Int), (2 : Int), (2 : Int), (3 : Int), (4 : Int)] (a0 - (1 : Int)).toNat fun x1 =>
      some x1
def f47 (a0 : Int) : Option Int := o47_0 a0
def an47 : An := .z
def F47 : Fn := { f := 47, a := an47, vars := [.tmp 2], ps := [.sc .int], rs := [.sc .int], own := false, fr := true, nt := 18, D := 2, loops := [] }
def cs47 : List Cal := []
theorem p47_0 (lab : Nat → SS → Option (RT.den F47.rs)) (x : PTs.den F47.ps) : F47.body (bodyOf Try.f47) tabR tyR true cs47 lab x = o47_0 x.1 := by kernel_rfl
theorem w47 (x : PTs.den F47.ps) : F47.body (bodyOf Try.f47) tabR tyR true cs47 (F47.labX (bodyOf Try.f47) tabR tyR true cs47 (F47.labM (bodyOf Try.f47) tabR tyR true cs47 0) F47.D) x = o47_0 x.1 := by
  show F47.body (bodyOf Try.f47) tabR tyR true cs47 (F47.labX (bodyOf Try.f47) tabR tyR true cs47 (F47.labM (bodyOf Try.f47) tabR tyR true cs47 0) 2) x = _
  rw [p47_0]
theorem call47 : Callable Try.prog 47 := callable_of Try.func47 (by kernel_rfl) (by kernel_rfl)
theorem ok47 : Cal.Ok Try.prog ⟨47, F47.ps, F47.rs, F47.fr, fun a => f47 a.1⟩ :=
  cal_of_fn F47 (code := bodyOf Try.f47) Try.func47 (by kernel_rfl) (by kernel_rfl) call47 htabR (cs := cs47) (fun c hc => by simp only [cs47, List.not_mem_nil] at hc) (fun _ => mixed) (by kernel_rfl) (by kernel_rfl) (by decide) (fun x => ⟨0, w47 x⟩)
-- tranship/transhipref11.numbered
def o107_0 (a0 : Int) : Option Bool :=
  if (decide (a0 = (1 : Int))) then
    some true
  else
    some (decide (a0 = (2 : Int)))
def f107 (a0 : Int) : Option Bool := o107_0 a0
def an107 : An := .z
def F107 : Fn := { f := 107, a := an107, vars := [.tmp 2], ps := [.sc .int], rs := [.sc .bool], own := false, fr := true, nt := 9, D := 2, loops := [] }
def cs107 : List Cal := []
theorem p107_0 (lab : Nat → SS → Option (RT.den F107.rs)) (x : PTs.den F107.ps) : F107.body (bodyOf Try.f107) tabR tyR true cs107 lab x = o107_0 x.1 := by kernel_rfl
theorem w107 (x : PTs.den F107.ps) : F107.body (bodyOf Try.f107) tabR tyR true cs107 (F107.labX (bodyOf Try.f107) tabR tyR true cs107 (F107.labM (bodyOf Try.f107) tabR tyR true cs107 0) F107.D) x = o107_0 x.1 := by
  show F107.body (bodyOf Try.f107) tabR tyR true cs107 (F107.labX (bodyOf Try.f107) tabR tyR true cs107 (F107.labM (bodyOf Try.f107) tabR tyR true cs107 0) 2) x = _
  rw [p107_0]
theorem call107 : Callable Try.prog 107 := callable_of Try.func107 (by kernel_rfl) (by kernel_rfl)
theorem ok107 : Cal.Ok Try.prog ⟨107, F107.ps, F107.rs, F107.fr, fun a => f107 a.1⟩ :=
  cal_of_fn F107 (code := bodyOf Try.f107) Try.func107 (by kernel_rfl) (by kernel_rfl) call107 htabR (cs := cs107) (fun c hc => by simp only [cs107, List.not_mem_nil] at hc) (fun _ => mixed) (by kernel_rfl) (by kernel_rfl) (by decide) (fun x => ⟨0, w107 x⟩)
-- tranship/deriv.Nodes
def o39_0 (s39 : Dv → Option Int) (n : Nat) (k1 : Int → (List Dv) → Int → Int → Option Int) (a0 : Dv) : Option Int :=
  k1 (1 : Int) a0.kids (a0.kids.length : Int) (0 : Int)
def o39_1 (s39 : Dv → Option Int) (n : Nat) (k1 : Int → (List Dv) → Int → Int → Option Int) (t3 : Int) (t7 : List Dv) (t8 : Int) (t9 : Int) : Option Int :=
  if (decide (t9 < t8)) then
    atI t7 t9 fun x1 =>
    (s39 x1).bind fun x2 =>
    ckI (t3 + x2) <|
    ckI (t9 + (1 : Int)) <|
    k1 (t3 + x2) t7 t8 (t9 + (1 : Int))
  else
    some t3
def l39_1 (s39 : Dv → Option Int) (n : Nat) : Nat → Int → (List Dv) → Int → Int → Option Int
  | 0, _, _, _, _ => none
  | m + 1, t3, t7, t8, t9 => o39_1 s39 n (l39_1 s39 n m) t3 t7 t8 t9
def f39 : Nat → Dv → Option Int
  | 0, _ => none
  | n + 1, a0 => o39_0 (f39 n) n (l39_1 (f39 n) n n) a0
def an39 : An := (.n none [] 0 .z (.n none [] 0 .z (.n none [] 0 (.n none [] 0 .z (.n none [] 0 (.n (some 1) [(3, .one .c), (7, .one (.d .dv false)), (8, .one .c), (9, .one .c)] 0 .z .z) .z)) .z)))
def F39 : Fn := { f := 39, a := an39, vars := [.tmp 2], ps := [.st .dv], rs := [.sc .int], own := false, fr := true, nt := 19, D := 3, loops := [1] }
def cs39 (s39 : Dv → Option Int) (n : Nat) : List Cal := [⟨39, [.st .dv], [.sc .int], true, fun a => s39 a.1⟩]
def st39_1 (t3 : Int) (t7 : List Dv) (t8 : Int) (t9 : Int) : SS := ⟨[(3, .v (.one (.c (.int t3) true))), (7, .v (.one (.c (.sl .dv t7) false))), (8, .v (.one (.c (.int t8) true))), (9, .v (.one (.c (.int t9) true)))], [], 0⟩
theorem p39_0 (s39 : Dv → Option Int) (n : Nat) (lab : Nat → SS → Option (RT.den F39.rs)) (x : PTs.den F39.ps) : F39.body (bodyOf Try.f39) tabR tyR true (cs39 s39 n) lab x = o39_0 s39 n (fun t3 t7 t8 t9 => lab 1 (st39_1 t3 t7 t8 t9)) x.1 := by kernel_rfl
theorem p39_1 (s39 : Dv → Option Int) (n : Nat) (lab : Nat → SS → Option (RT.den F39.rs)) (t3 : Int) (t7 : List Dv) (t8 : Int) (t9 : Int) : F39.at (bodyOf Try.f39) tabR tyR true (cs39 s39 n) lab 1 (st39_1 t3 t7 t8 t9) = o39_1 s39 n (fun t3 t7 t8 t9 => lab 1 (st39_1 t3 t7 t8 t9)) t3 t7 t8 t9 := by kernel_rfl
theorem m39_1 (s39 : Dv → Option Int) (n : Nat) : ∀ m : Nat, (∀ t3 t7 t8 t9, F39.labM (bodyOf Try.f39) tabR tyR true (cs39 s39 n) m 1 (st39_1 t3 t7 t8 t9) = l39_1 s39 n m t3 t7 t8 t9) := by
  intro m
  induction m with
  | zero => exact fun _ _ _ _ => rfl
  | succ m ih =>
    intro t3 t7 t8 t9
    have e1 : ∀ t3 t7 t8 t9, F39.labX (bodyOf Try.f39) tabR tyR true (cs39 s39 n) (F39.labM (bodyOf Try.f39) tabR tyR true (cs39 s39 n) m) 2 1 (st39_1 t3 t7 t8 t9) = (l39_1 s39 n m) t3 t7 t8 t9 := fun t3 t7 t8 t9 => (Fn.labX_loop _ _ _ _ _ _ _ _ _ _ (by kernel_rfl)).trans (ih t3 t7 t8 t9)
    rw [Fn.labM_succ]
    show F39.labD (bodyOf Try.f39) tabR tyR true (cs39 s39 n) (F39.labM (bodyOf Try.f39) tabR tyR true (cs39 s39 n) m) (2 + 1) 1 _ = _
    rw [Fn.labD_succ, p39_1]
    simp only [e1]
    rfl
theorem w39 (s39 : Dv → Option Int) (n : Nat) (x : PTs.den F39.ps) : F39.body (bodyOf Try.f39) tabR tyR true (cs39 s39 n) (F39.labX (bodyOf Try.f39) tabR tyR true (cs39 s39 n) (F39.labM (bodyOf Try.f39) tabR tyR true (cs39 s39 n) n) F39.D) x = o39_0 s39 n (l39_1 s39 n n) x.1 := by
  have e1 : ∀ t3 t7 t8 t9, F39.labX (bodyOf Try.f39) tabR tyR true (cs39 s39 n) (F39.labM (bodyOf Try.f39) tabR tyR true (cs39 s39 n) n) 3 1 (st39_1 t3 t7 t8 t9) = (l39_1 s39 n n) t3 t7 t8 t9 := fun t3 t7 t8 t9 => (Fn.labX_loop _ _ _ _ _ _ _ _ _ _ (by kernel_rfl)).trans ((m39_1 s39 n n) t3 t7 t8 t9)
  show F39.body (bodyOf Try.f39) tabR tyR true (cs39 s39 n) (F39.labX (bodyOf Try.f39) tabR tyR true (cs39 s39 n) (F39.labM (bodyOf Try.f39) tabR tyR true (cs39 s39 n) n) 3) x = _
  rw [p39_0]
  simp only [e1]
  try rfl
theorem call39 : Callable Try.prog 39 := callable_of Try.func39 (by kernel_rfl) (by kernel_rfl)
theorem okr39 : ∀ n : Nat, Cal.Ok Try.prog ⟨39, F39.ps, F39.rs, F39.fr, fun a => f39 n a.1⟩
  | 0 => ⟨by kernel_rfl, fun a r h => by cases h⟩
  | n + 1 => cal_of_fn F39 (code := bodyOf Try.f39) Try.func39 (by kernel_rfl) (by kernel_rfl) call39 htabR (cs := cs39 (f39 n) n) (fun c hc => by
      simp only [cs39, List.mem_cons, List.not_mem_nil, or_false] at hc
      rcases hc with rfl
      · exact (okr39 n)) (fun _ => mixed) (by kernel_rfl) (by kernel_rfl) (by decide) (fun x => ⟨n, w39 (f39 n) n x⟩)
theorem ok39 (n : Nat) : Cal.Ok Try.prog ⟨39, F39.ps, F39.rs, F39.fr, fun a => f39 n a.1⟩ := (okr39 n)
-- tranship/transhipref11.Nodes
def o40_0 (s40 : Dv → Option Int) (n : Nat) (k1 : Dv → Int → Int → Option Int) (a0 : Dv) : Option Int :=
  k1 a0 (1 : Int) (0 : Int)
def o40_1 (s40 : Dv → Option Int) (n : Nat) (k1 : Dv → Int → Int → Option Int) (t1 : Dv) (t3 : Int) (t4 : Int) : Option Int :=
  if (decide (t4 < (t1.kids.length : Int))) then
    atI t1.kids t4 fun x1 =>
    (s40 x1).bind fun x2 =>
    ckI (t3 + x2) <|
    ckI (t4 + (1 : Int)) <|
    k1 t1 (t3 + x2) (t4 + (1 : Int))
  else
    some t3
def l40_1 (s40 : Dv → Option Int) (n : Nat) : Nat → Dv → Int → Int → Option Int
  | 0, _, _, _ => none
  | m + 1, t1, t3, t4 => o40_1 s40 n (l40_1 s40 n m) t1 t3 t4
def f40 : Nat → Dv → Option Int
  | 0, _ => none
  | n + 1, a0 => o40_0 (f40 n) n (l40_1 (f40 n) n n) a0
def an40 : An := (.n none [] 0 .z (.n none [] 0 .z (.n none [] 0 (.n none [] 0 .z (.n none [] 0 (.n (some 1) [(1, .ps 0 .dv false), (3, .one .c), (4, .one .c)] 1 .z .z) .z)) .z)))
def F40 : Fn := { f := 40, a := an40, vars := [.tmp 2], ps := [.st .dv], rs := [.sc .int], own := false, fr := true, nt := 21, D := 3, loops := [1] }
def cs40 (s40 : Dv → Option Int) (n : Nat) : List Cal := [⟨40, [.st .dv], [.sc .int], true, fun a => s40 a.1⟩]
def st40_1 (t1 : Dv) (t3 : Int) (t4 : Int) : SS := ⟨[(1, .v (.one (.ptr 0 0))), (3, .v (.one (.c (.int t3) true))), (4, .v (.one (.c (.int t4) true)))], [(0, some (.bst .dv t1 false))], 1⟩
theorem p40_0 (s40 : Dv → Option Int) (n : Nat) (lab : Nat → SS → Option (RT.den F40.rs)) (x : PTs.den F40.ps) : F40.body (bodyOf Try.f40) tabR tyR true (cs40 s40 n) lab x = o40_0 s40 n (fun t1 t3 t4 => lab 1 (st40_1 t1 t3 t4)) x.1 := by kernel_rfl
theorem p40_1 (s40 : Dv → Option Int) (n : Nat) (lab : Nat → SS → Option (RT.den F40.rs)) (t1 : Dv) (t3 : Int) (t4 : Int) : F40.at (bodyOf Try.f40) tabR tyR true (cs40 s40 n) lab 1 (st40_1 t1 t3 t4) = o40_1 s40 n (fun t1 t3 t4 => lab 1 (st40_1 t1 t3 t4)) t1 t3 t4 := by kernel_rfl
theorem m40_1 (s40 : Dv → Option Int) (n : Nat) : ∀ m : Nat, (∀ t1 t3 t4, F40.labM (bodyOf Try.f40) tabR tyR true (cs40 s40 n) m 1 (st40_1 t1 t3 t4) = l40_1 s40 n m t1 t3 t4) := by
  intro m
  induction m with
  | zero => exact fun _ _ _ => rfl
  | succ m ih =>
    intro t1 t3 t4
    have e1 : ∀ t1 t3 t4, F40.labX (bodyOf Try.f40) tabR tyR true (cs40 s40 n) (F40.labM (bodyOf Try.f40) tabR tyR true (cs40 s40 n) m) 2 1 (st40_1 t1 t3 t4) = (l40_1 s40 n m) t1 t3 t4 := fun t1 t3 t4 => (Fn.labX_loop _ _ _ _ _ _ _ _ _ _ (by kernel_rfl)).trans (ih t1 t3 t4)
    rw [Fn.labM_succ]
    show F40.labD (bodyOf Try.f40) tabR tyR true (cs40 s40 n) (F40.labM (bodyOf Try.f40) tabR tyR true (cs40 s40 n) m) (2 + 1) 1 _ = _
    rw [Fn.labD_succ, p40_1]
    simp only [e1]
    rfl
theorem w40 (s40 : Dv → Option Int) (n : Nat) (x : PTs.den F40.ps) : F40.body (bodyOf Try.f40) tabR tyR true (cs40 s40 n) (F40.labX (bodyOf Try.f40) tabR tyR true (cs40 s40 n) (F40.labM (bodyOf Try.f40) tabR tyR true (cs40 s40 n) n) F40.D) x = o40_0 s40 n (l40_1 s40 n n) x.1 := by
  have e1 : ∀ t1 t3 t4, F40.labX (bodyOf Try.f40) tabR tyR true (cs40 s40 n) (F40.labM (bodyOf Try.f40) tabR tyR true (cs40 s40 n) n) 3 1 (st40_1 t1 t3 t4) = (l40_1 s40 n n) t1 t3 t4 := fun t1 t3 t4 => (Fn.labX_loop _ _ _ _ _ _ _ _ _ _ (by kernel_rfl)).trans ((m40_1 s40 n n) t1 t3 t4)
  show F40.body (bodyOf Try.f40) tabR tyR true (cs40 s40 n) (F40.labX (bodyOf Try.f40) tabR tyR true (cs40 s40 n) (F40.labM (bodyOf Try.f40) tabR tyR true (cs40 s40 n) n) 3) x = _
  rw [p40_0]
  simp only [e1]
  try rfl
theorem call40 : Callable Try.prog 40 := callable_of Try.func40 (by kernel_rfl) (by kernel_rfl)
theorem okr40 : ∀ n : Nat, Cal.Ok Try.prog ⟨40, F40.ps, F40.rs, F40.fr, fun a => f40 n a.1⟩
  | 0 => ⟨by kernel_rfl, fun a r h => by cases h⟩
  | n + 1 => cal_of_fn F40 (code := bodyOf Try.f40) Try.func40 (by kernel_rfl) (by kernel_rfl) call40 htabR (cs := cs40 (f40 n) n) (fun c hc => by
      simp only [cs40, List.mem_cons, List.not_mem_nil, or_false] at hc
      rcases hc with rfl
      · exact (okr40 n)) (fun _ => mixed) (by kernel_rfl) (by kernel_rfl) (by decide) (fun x => ⟨n, w40 (f40 n) n x⟩)
theorem ok40 (n : Nat) : Cal.Ok Try.prog ⟨40, F40.ps, F40.rs, F40.fr, fun a => f40 n a.1⟩ := (okr40 n)
-- tranship/deriv.Deep
def o41_0 (s41 : Dv → Option Int) (n : Nat) (k1 : Int → (List Dv) → Int → Int → Option Int) (a0 : Dv) : Option Int :=
  k1 (0 : Int) a0.kids (a0.kids.length : Int) (0 : Int)
def o41_1 (s41 : Dv → Option Int) (n : Nat) (k1 : Int → (List Dv) → Int → Int → Option Int) (t3 : Int) (t7 : List Dv) (t8 : Int) (t9 : Int) : Option Int :=
  if (decide (t9 < t8)) then
    atI t7 t9 fun x1 =>
    (s41 x1).bind fun x2 =>
    ckI (t9 + (1 : Int)) <|
    k1 (max t3 x2) t7 t8 (t9 + (1 : Int))
  else
    ckI (t3 + (1 : Int)) <|
    some (t3 + (1 : Int))
def l41_1 (s41 : Dv → Option Int) (n : Nat) : Nat → Int → (List Dv) → Int → Int → Option Int
  | 0, _, _, _, _ => none
  | m + 1, t3, t7, t8, t9 => o41_1 s41 n (l41_1 s41 n m) t3 t7 t8 t9
def f41 : Nat → Dv → Option Int
  | 0, _ => none
  | n + 1, a0 => o41_0 (f41 n) n (l41_1 (f41 n) n n) a0
def an41 : An := (.n none [] 0 .z (.n none [] 0 .z (.n none [] 0 (.n none [] 0 .z (.n none [] 0 (.n (some 1) [(3, .one .c), (7, .one (.d .dv false)), (8, .one .c), (9, .one .c)] 0 .z .z) .z)) .z)))
def F41 : Fn := { f := 41, a := an41, vars := [.tmp 2], ps := [.st .dv], rs := [.sc .int], own := false, fr := true, nt := 20, D := 3, loops := [1] }
def cs41 (s41 : Dv → Option Int) (n : Nat) : List Cal := [⟨41, [.st .dv], [.sc .int], true, fun a => s41 a.1⟩]
def st41_1 (t3 : Int) (t7 : List Dv) (t8 : Int) (t9 : Int) : SS := ⟨[(3, .v (.one (.c (.int t3) true))), (7, .v (.one (.c (.sl .dv t7) false))), (8, .v (.one (.c (.int t8) true))), (9, .v (.one (.c (.int t9) true)))], [], 0⟩
theorem p41_0 (s41 : Dv → Option Int) (n : Nat) (lab : Nat → SS → Option (RT.den F41.rs)) (x : PTs.den F41.ps) : F41.body (bodyOf Try.f41) tabR tyR true (cs41 s41 n) lab x = o41_0 s41 n (fun t3 t7 t8 t9 => lab 1 (st41_1 t3 t7 t8 t9)) x.1 := by kernel_rfl
theorem p41_1 (s41 : Dv → Option Int) (n : Nat) (lab : Nat → SS → Option (RT.den F41.rs)) (t3 : Int) (t7 : List Dv) (t8 : Int) (t9 : Int) : F41.at (bodyOf Try.f41) tabR tyR true (cs41 s41 n) lab 1 (st41_1 t3 t7 t8 t9) = o41_1 s41 n (fun t3 t7 t8 t9 => lab 1 (st41_1 t3 t7 t8 t9)) t3 t7 t8 t9 := by kernel_rfl
theorem m41_1 (s41 : Dv → Option Int) (n : Nat) : ∀ m : Nat, (∀ t3 t7 t8 t9, F41.labM (bodyOf Try.f41) tabR tyR true (cs41 s41 n) m 1 (st41_1 t3 t7 t8 t9) = l41_1 s41 n m t3 t7 t8 t9) := by
  intro m
  induction m with
  | zero => exact fun _ _ _ _ => rfl
  | succ m ih =>
    intro t3 t7 t8 t9
    have e1 : ∀ t3 t7 t8 t9, F41.labX (bodyOf Try.f41) tabR tyR true (cs41 s41 n) (F41.labM (bodyOf Try.f41) tabR tyR true (cs41 s41 n) m) 2 1 (st41_1 t3 t7 t8 t9) = (l41_1 s41 n m) t3 t7 t8 t9 := fun t3 t7 t8 t9 => (Fn.labX_loop _ _ _ _ _ _ _ _ _ _ (by kernel_rfl)).trans (ih t3 t7 t8 t9)
    rw [Fn.labM_succ]
    show F41.labD (bodyOf Try.f41) tabR tyR true (cs41 s41 n) (F41.labM (bodyOf Try.f41) tabR tyR true (cs41 s41 n) m) (2 + 1) 1 _ = _
    rw [Fn.labD_succ, p41_1]
    simp only [e1]
    rfl
theorem w41 (s41 : Dv → Option Int) (n : Nat) (x : PTs.den F41.ps) : F41.body (bodyOf Try.f41) tabR tyR true (cs41 s41 n) (F41.labX (bodyOf Try.f41) tabR tyR true (cs41 s41 n) (F41.labM (bodyOf Try.f41) tabR tyR true (cs41 s41 n) n) F41.D) x = o41_0 s41 n (l41_1 s41 n n) x.1 := by
  have e1 : ∀ t3 t7 t8 t9, F41.labX (bodyOf Try.f41) tabR tyR true (cs41 s41 n) (F41.labM (bodyOf Try.f41) tabR tyR true (cs41 s41 n) n) 3 1 (st41_1 t3 t7 t8 t9) = (l41_1 s41 n n) t3 t7 t8 t9 := fun t3 t7 t8 t9 => (Fn.labX_loop _ _ _ _ _ _ _ _ _ _ (by kernel_rfl)).trans ((m41_1 s41 n n) t3 t7 t8 t9)
  show F41.body (bodyOf Try.f41) tabR tyR true (cs41 s41 n) (F41.labX (bodyOf Try.f41) tabR tyR true (cs41 s41 n) (F41.labM (bodyOf Try.f41) tabR tyR true (cs41 s41 n) n) 3) x = _
  rw [p41_0]
  simp only [e1]
  try rfl
theorem call41 : Callable Try.prog 41 := callable_of Try.func41 (by kernel_rfl) (by kernel_rfl)
theorem okr41 : ∀ n : Nat, Cal.Ok Try.prog ⟨41, F41.ps, F41.rs, F41.fr, fun a => f41 n a.1⟩
  | 0 => ⟨by kernel_rfl, fun a r h => by cases h⟩
  | n + 1 => cal_of_fn F41 (code := bodyOf Try.f41) Try.func41 (by kernel_rfl) (by kernel_rfl) call41 htabR (cs := cs41 (f41 n) n) (fun c hc => by
      simp only [cs41, List.mem_cons, List.not_mem_nil, or_false] at hc
      rcases hc with rfl
      · exact (okr41 n)) (fun _ => mixed) (by kernel_rfl) (by kernel_rfl) (by decide) (fun x => ⟨n, w41 (f41 n) n x⟩)
theorem ok41 (n : Nat) : Cal.Ok Try.prog ⟨41, F41.ps, F41.rs, F41.fr, fun a => f41 n a.1⟩ := (okr41 n)
-- tranship/transhipref11.Deep
def o42_0 (s42 : Dv → Option Int) (n : Nat) (k1 : Dv → Int → Int → Option Int) (a0 : Dv) : Option Int :=
  k1 a0 (0 : Int) (0 : Int)
def o42_1 (s42 : Dv → Option Int) (n : Nat) (k1 : Dv → Int → Int → Option Int) (t1 : Dv) (t3 : Int) (t4 : Int) : Option Int :=
  if (decide (t4 < (t1.kids.length : Int))) then
    atI t1.kids t4 fun x1 =>
    (s42 x1).bind fun x2 =>
    ckI (t4 + (1 : Int)) <|
    k1 t1 (max t3 x2) (t4 + (1 : Int))
  else
    ckI (t3 + (1 : Int)) <|
    some (t3 + (1 : Int))
def l42_1 (s42 : Dv → Option Int) (n : Nat) : Nat → Dv → Int → Int → Option Int
  | 0, _, _, _ => none
  | m + 1, t1, t3, t4 => o42_1 s42 n (l42_1 s42 n m) t1 t3 t4
def f42 : Nat → Dv → Option Int
  | 0, _ => none
  | n + 1, a0 => o42_0 (f42 n) n (l42_1 (f42 n) n n) a0
def an42 : An := (.n none [] 0 .z (.n none [] 0 .z (.n none [] 0 (.n none [] 0 .z (.n none [] 0 (.n (some 1) [(1, .ps 0 .dv false), (3, .one .c), (4, .one .c)] 1 .z .z) .z)) .z)))
def F42 : Fn := { f := 42, a := an42, vars := [.tmp 2], ps := [.st .dv], rs := [.sc .int], own := false, fr := true, nt := 22, D := 3, loops := [1] }
def cs42 (s42 : Dv → Option Int) (n : Nat) : List Cal := [⟨42, [.st .dv], [.sc .int], true, fun a => s42 a.1⟩]
def st42_1 (t1 : Dv) (t3 : Int) (t4 : Int) : SS := ⟨[(1, .v (.one (.ptr 0 0))), (3, .v (.one (.c (.int t3) true))), (4, .v (.one (.c (.int t4) true)))], [(0, some (.bst .dv t1 false))], 1⟩
theorem p42_0 (s42 : Dv → Option Int) (n : Nat) (lab : Nat → SS → Option (RT.den F42.rs)) (x : PTs.den F42.ps) : F42.body (bodyOf Try.f42) tabR tyR true (cs42 s42 n) lab x = o42_0 s42 n (fun t1 t3 t4 => lab 1 (st42_1 t1 t3 t4)) x.1 := by kernel_rfl
theorem p42_1 (s42 : Dv → Option Int) (n : Nat) (lab : Nat → SS → Option (RT.den F42.rs)) (t1 : Dv) (t3 : Int) (t4 : Int) : F42.at (bodyOf Try.f42) tabR tyR true (cs42 s42 n) lab 1 (st42_1 t1 t3 t4) = o42_1 s42 n (fun t1 t3 t4 => lab 1 (st42_1 t1 t3 t4)) t1 t3 t4 := by kernel_rfl
theorem m42_1 (s42 : Dv → Option Int) (n : Nat) : ∀ m : Nat, (∀ t1 t3 t4, F42.labM (bodyOf Try.f42) tabR tyR true (cs42 s42 n) m 1 (st42_1 t1 t3 t4) = l42_1 s42 n m t1 t3 t4) := by
  intro m
  induction m with
  | zero => exact fun _ _ _ => rfl
  | succ m ih =>
    intro t1 t3 t4
    have e1 : ∀ t1 t3 t4, F42.labX (bodyOf Try.f42) tabR tyR true (cs42 s42 n) (F42.labM (bodyOf Try.f42) tabR tyR true (cs42 s42 n) m) 2 1 (st42_1 t1 t3 t4) = (l42_1 s42 n m) t1 t3 t4 := fun t1 t3 t4 => (Fn.labX_loop _ _ _ _ _ _ _ _ _ _ (by kernel_rfl)).trans (ih t1 t3 t4)
    rw [Fn.labM_succ]
    show F42.labD (bodyOf Try.f42) tabR tyR true (cs42 s42 n) (F42.labM (bodyOf Try.f42) tabR tyR true (cs42 s42 n) m) (2 + 1) 1 _ = _
    rw [Fn.labD_succ, p42_1]
    simp only [e1]
    rfl
theorem w42 (s42 : Dv → Option Int) (n : Nat) (x : PTs.den F42.ps) : F42.body (bodyOf Try.f42) tabR tyR true (cs42 s42 n) (F42.labX (bodyOf Try.f42) tabR tyR true (cs42 s42 n) (F42.labM (bodyOf Try.f42) tabR tyR true (cs42 s42 n) n) F42.D) x = o42_0 s42 n (l42_1 s42 n n) x.1 := by
  have e1 : ∀ t1 t3 t4, F42.labX (bodyOf Try.f42) tabR tyR true (cs42 s42 n) (F42.labM (bodyOf Try.f42) tabR tyR true (cs42 s42 n) n) 3 1 (st42_1 t1 t3 t4) = (l42_1 s42 n n) t1 t3 t4 := fun t1 t3 t4 => (Fn.labX_loop _ _ _ _ _ _ _ _ _ _ (by kernel_rfl)).trans ((m42_1 s42 n n) t1 t3 t4)
  show F42.body (bodyOf Try.f42) tabR tyR true (cs42 s42 n) (F42.labX (bodyOf Try.f42) tabR tyR true (cs42 s42 n) (F42.labM (bodyOf Try.f42) tabR tyR true (cs42 s42 n) n) 3) x = _
  rw [p42_0]
  simp only [e1]
  try rfl
theorem call42 : Callable Try.prog 42 := callable_of Try.func42 (by kernel_rfl) (by kernel_rfl)
theorem okr42 : ∀ n : Nat, Cal.Ok Try.prog ⟨42, F42.ps, F42.rs, F42.fr, fun a => f42 n a.1⟩
  | 0 => ⟨by kernel_rfl, fun a r h => by cases h⟩
  | n + 1 => cal_of_fn F42 (code := bodyOf Try.f42) Try.func42 (by kernel_rfl) (by kernel_rfl) call42 htabR (cs := cs42 (f42 n) n) (fun c hc => by
      simp only [cs42, List.mem_cons, List.not_mem_nil, or_false] at hc
      rcases hc with rfl
      · exact (okr42 n)) (fun _ => mixed) (by kernel_rfl) (by kernel_rfl) (by decide) (fun x => ⟨n, w42 (f42 n) n x⟩)
theorem ok42 (n : Nat) : Cal.Ok Try.prog ⟨42, F42.ps, F42.rs, F42.fr, fun a => f42 n a.1⟩ := (okr42 n)
-- tranship/transhipkeep.Deriv, tranship/transhipkeep.Derivs
def o43_0 (s43 : Dv → Dv → Option Bool) (s108 : (List Dv) → (List Dv) → Option Bool) (n : Nat) (a0 : Dv) (a1 : Dv) : Option Bool :=
  if (decide (a0.rule = a1.rule)) then
    if (decide (a0.i = a1.i)) then
      (s108 a0.kids a1.kids).bind fun x1 =>
      some x1
    else
      some false
  else
    some false
def o108_0 (s43 : Dv → Dv → Option Bool) (s108 : (List Dv) → (List Dv) → Option Bool) (n : Nat) (k1 : (List Dv) → (List Dv) → Int → Option Bool) (a0 : List Dv) (a1 : List Dv) : Option Bool :=
  if (!decide ((a0.length : Int) = (a1.length : Int))) then
    some false
  else
    k1 a0 a1 (0 : Int)
def o108_1 (s43 : Dv → Dv → Option Bool) (s108 : (List Dv) → (List Dv) → Option Bool) (n : Nat) (k1 : (List Dv) → (List Dv) → Int → Option Bool) (t0 : List Dv) (t1 : List Dv) (t5 : Int) : Option Bool :=
  if (decide (t5 < (t0.length : Int))) then
    atI t0 t5 fun x1 =>
    atI t1 t5 fun x2 =>
    (s43 x1 x2).bind fun x3 =>
    if (!x3) then
      some false
    else
      ckI (t5 + (1 : Int)) <|
      k1 t0 t1 (t5 + (1 : Int))
  else
    some true
def l108_1 (s43 : Dv → Dv → Option Bool) (s108 : (List Dv) → (List Dv) → Option Bool) (n : Nat) : Nat → (List Dv) → (List Dv) → Int → Option Bool
  | 0, _, _, _ => none
  | m + 1, t0, t1, t5 => o108_1 s43 s108 n (l108_1 s43 s108 n m) t0 t1 t5
mutual
def f43 : Nat → Dv → Dv → Option Bool
  | 0, _, _ => none
  | n + 1, a0, a1 => o43_0 (f43 n) (f108 n) n a0 a1
def f108 : Nat → (List Dv) → (List Dv) → Option Bool
  | 0, _, _ => none
  | n + 1, a0, a1 => o108_0 (f43 n) (f108 n) n (l108_1 (f43 n) (f108 n) n n) a0 a1
end
def an43 : An := .z
def F43 : Fn := { f := 43, a := an43, vars := [.tmp 4], ps := [.st .dv, .st .dv], rs := [.sc .bool], own := false, fr := true, nt := 24, D := 2, loops := [] }
def cs43 (s43 : Dv → Dv → Option Bool) (s108 : (List Dv) → (List Dv) → Option Bool) (n : Nat) : List Cal := [⟨108, [.sl .dv, .sl .dv], [.sc .bool], true, fun a => s108 a.1 a.2.1⟩]
theorem p43_0 (s43 : Dv → Dv → Option Bool) (s108 : (List Dv) → (List Dv) → Option Bool) (n : Nat) (lab : Nat → SS → Option (RT.den F43.rs)) (x : PTs.den F43.ps) : F43.body (bodyOf Try.f43) tabR tyR true (cs43 s43 s108 n) lab x = o43_0 s43 s108 n x.1 x.2.1 := by kernel_rfl
theorem w43 (s43 : Dv → Dv → Option Bool) (s108 : (List Dv) → (List Dv) → Option Bool) (n : Nat) (x : PTs.den F43.ps) : F43.body (bodyOf Try.f43) tabR tyR true (cs43 s43 s108 n) (F43.labX (bodyOf Try.f43) tabR tyR true (cs43 s43 s108 n) (F43.labM (bodyOf Try.f43) tabR tyR true (cs43 s43 s108 n) 0) F43.D) x = o43_0 s43 s108 n x.1 x.2.1 := by
  show F43.body (bodyOf Try.f43) tabR tyR true (cs43 s43 s108 n) (F43.labX (bodyOf Try.f43) tabR tyR true (cs43 s43 s108 n) (F43.labM (bodyOf Try.f43) tabR tyR true (cs43 s43 s108 n) 0) 2) x = _
  rw [p43_0]
theorem call43 : Callable Try.prog 43 := callable_of Try.func43 (by kernel_rfl) (by kernel_rfl)
def an108 : An := (.n none [] 0 .z (.n none [] 0 .z (.n none [] 0 (.n none [] 0 .z (.n none [] 0 (.n (some 1) [(0, .one (.d .dv false)), (1, .one (.d .dv false)), (5, .one .c)] 0 .z .z) .z)) .z)))
def F108 : Fn := { f := 108, a := an108, vars := [.tmp 4], ps := [.sl .dv, .sl .dv], rs := [.sc .bool], own := false, fr := true, nt := 27, D := 3, loops := [1] }
def cs108 (s43 : Dv → Dv → Option Bool) (s108 : (List Dv) → (List Dv) → Option Bool) (n : Nat) : List Cal := [⟨43, [.st .dv, .st .dv], [.sc .bool], true, fun a => s43 a.1 a.2.1⟩]
def st108_1 (t0 : List Dv) (t1 : List Dv) (t5 : Int) : SS := ⟨[(0, .v (.one (.c (.sl .dv t0) false))), (1, .v (.one (.c (.sl .dv t1) false))), (5, .v (.one (.c (.int t5) true)))], [], 0⟩
theorem p108_0 (s43 : Dv → Dv → Option Bool) (s108 : (List Dv) → (List Dv) → Option Bool) (n : Nat) (lab : Nat → SS → Option (RT.den F108.rs)) (x : PTs.den F108.ps) : F108.body (bodyOf Try.f108) tabR tyR true (cs108 s43 s108 n) lab x = o108_0 s43 s108 n (fun t0 t1 t5 => lab 1 (st108_1 t0 t1 t5)) x.1 x.2.1 := by kernel_rfl
theorem p108_1 (s43 : Dv → Dv → Option Bool) (s108 : (List Dv) → (List Dv) → Option Bool) (n : Nat) (lab : Nat → SS → Option (RT.den F108.rs)) (t0 : List Dv) (t1 : List Dv) (t5 : Int) : F108.at (bodyOf Try.f108) tabR tyR true (cs108 s43 s108 n) lab 1 (st108_1 t0 t1 t5) = o108_1 s43 s108 n (fun t0 t1 t5 => lab 1 (st108_1 t0 t1 t5)) t0 t1 t5 := by kernel_rfl
theorem m108_1 (s43 : Dv → Dv → Option Bool) (s108 : (List Dv) → (List Dv) → Option Bool) (n : Nat) : ∀ m : Nat, (∀ t0 t1 t5, F108.labM (bodyOf Try.f108) tabR tyR true (cs108 s43 s108 n) m 1 (st108_1 t0 t1 t5) = l108_1 s43 s108 n m t0 t1 t5) := by
  intro m
  induction m with
  | zero => exact fun _ _ _ => rfl
  | succ m ih =>
    intro t0 t1 t5
    have e1 : ∀ t0 t1 t5, F108.labX (bodyOf Try.f108) tabR tyR true (cs108 s43 s108 n) (F108.labM (bodyOf Try.f108) tabR tyR true (cs108 s43 s108 n) m) 2 1 (st108_1 t0 t1 t5) = (l108_1 s43 s108 n m) t0 t1 t5 := fun t0 t1 t5 => (Fn.labX_loop _ _ _ _ _ _ _ _ _ _ (by kernel_rfl)).trans (ih t0 t1 t5)
    rw [Fn.labM_succ]
    show F108.labD (bodyOf Try.f108) tabR tyR true (cs108 s43 s108 n) (F108.labM (bodyOf Try.f108) tabR tyR true (cs108 s43 s108 n) m) (2 + 1) 1 _ = _
    rw [Fn.labD_succ, p108_1]
    simp only [e1]
    rfl
theorem w108 (s43 : Dv → Dv → Option Bool) (s108 : (List Dv) → (List Dv) → Option Bool) (n : Nat) (x : PTs.den F108.ps) : F108.body (bodyOf Try.f108) tabR tyR true (cs108 s43 s108 n) (F108.labX (bodyOf Try.f108) tabR tyR true (cs108 s43 s108 n) (F108.labM (bodyOf Try.f108) tabR tyR true (cs108 s43 s108 n) n) F108.D) x = o108_0 s43 s108 n (l108_1 s43 s108 n n) x.1 x.2.1 := by
  have e1 : ∀ t0 t1 t5, F108.labX (bodyOf Try.f108) tabR tyR true (cs108 s43 s108 n) (F108.labM (bodyOf Try.f108) tabR tyR true (cs108 s43 s108 n) n) 3 1 (st108_1 t0 t1 t5) = (l108_1 s43 s108 n n) t0 t1 t5 := fun t0 t1 t5 => (Fn.labX_loop _ _ _ _ _ _ _ _ _ _ (by kernel_rfl)).trans ((m108_1 s43 s108 n n) t0 t1 t5)
  show F108.body (bodyOf Try.f108) tabR tyR true (cs108 s43 s108 n) (F108.labX (bodyOf Try.f108) tabR tyR true (cs108 s43 s108 n) (F108.labM (bodyOf Try.f108) tabR tyR true (cs108 s43 s108 n) n) 3) x = _
  rw [p108_0]
  simp only [e1]
  try rfl
theorem call108 : Callable Try.prog 108 := callable_of Try.func108 (by kernel_rfl) (by kernel_rfl)
theorem okr43 : ∀ n : Nat, Cal.Ok Try.prog ⟨43, F43.ps, F43.rs, F43.fr, fun a => f43 n a.1 a.2.1⟩ ∧ Cal.Ok Try.prog ⟨108, F108.ps, F108.rs, F108.fr, fun a => f108 n a.1 a.2.1⟩
  | 0 => ⟨⟨by kernel_rfl, fun a r h => by cases h⟩, ⟨by kernel_rfl, fun a r h => by cases h⟩⟩
  | n + 1 => ⟨cal_of_fn F43 (code := bodyOf Try.f43) Try.func43 (by kernel_rfl) (by kernel_rfl) call43 htabR (cs := cs43 (f43 n) (f108 n) n) (fun c hc => by
      simp only [cs43, List.mem_cons, List.not_mem_nil, or_false] at hc
      rcases hc with rfl
      · exact (okr43 n).2) (fun _ => mixed) (by kernel_rfl) (by kernel_rfl) (by decide) (fun x => ⟨0, w43 (f43 n) (f108 n) n x⟩),
    cal_of_fn F108 (code := bodyOf Try.f108) Try.func108 (by kernel_rfl) (by kernel_rfl) call108 htabR (cs := cs108 (f43 n) (f108 n) n) (fun c hc => by
      simp only [cs108, List.mem_cons, List.not_mem_nil, or_false] at hc
      rcases hc with rfl
      · exact (okr43 n).1) (fun _ => mixed) (by kernel_rfl) (by kernel_rfl) (by decide) (fun x => ⟨n, w108 (f43 n) (f108 n) n x⟩)⟩
theorem ok43 (n : Nat) : Cal.Ok Try.prog ⟨43, F43.ps, F43.rs, F43.fr, fun a => f43 n a.1 a.2.1⟩ := (okr43 n).1
theorem ok108 (n : Nat) : Cal.Ok Try.prog ⟨108, F108.ps, F108.rs, F108.fr, fun a => f108 n a.1 a.2.1⟩ := (okr43 n).2
-- tranship/deriv.words
def o109_0 : Option ((List ByteArray)) :=
  some [(⟨#[115, 111, 114, 116]⟩ : ByteArray), (⟨#[118, 97, 114]⟩ : ByteArray), (⟨#[112, 105]⟩ : ByteArray), (⟨#[108, 97, 109]⟩ : ByteArray), (⟨#[97, 112, 112]⟩ : ByteArray), (⟨#[115, 105, 103]⟩ : ByteArray), (⟨#[112, 97, 105, 114]⟩ : ByteArray), (⟨#[102, 115, 116]⟩ : ByteArray), (⟨#[115, 110, 100]⟩ : ByteArray), (⟨#[101, 113]⟩ : ByteArray), (⟨#[114, 101, 102, 108]⟩ : ByteArray), (⟨#[99, 111, 110, 118]⟩ : ByteArray), (⟨#[115, 97, 109, 101]⟩ : ByteArray), (⟨#[115, 121, 109]⟩ : ByteArray), (⟨#[116, 114, 97, 110, 115]⟩ : ByteArray), (⟨#[99, 111, 110, 118, 115]⟩ : ByteArray), (⟨#[114, 101, 102, 108, 101, 99, 116]⟩ : ByteArray), (⟨#[98, 101, 116, 97]⟩ : ByteArray), (⟨#[102, 105, 114, 115, 116]⟩ : ByteArray), (⟨#[115, 101, 99, 111, 110, 100]⟩ : ByteArray), (⟨#[101, 116, 97]⟩ : ByteArray), (⟨#[115, 117, 114, 106]⟩ : ByteArray), (⟨#[114, 101, 112, 108]⟩ : ByteArray), (⟨#[105, 114, 114]⟩ : ByteArray), (⟨#[120, 112, 105]⟩ : ByteArray), (⟨#[120, 115, 105, 103]⟩ : ByteArray), (⟨#[120, 108, 97, 109]⟩ : ByteArray), (⟨#[120, 112, 97, 105, 114]⟩ : ByteArray)]
def f109 : Option ((List ByteArray)) := o109_0
def an109 : An := .z
def F109 : Fn := { f := 109, a := an109, vars := [.tmp 0], ps := [], rs := [.sl .str], own := false, fr := true, nt := 2, D := 2, loops := [] }
def cs109 : List Cal := []
theorem p109_0 (lab : Nat → SS → Option (RT.den F109.rs)) (x : PTs.den F109.ps) : F109.body (bodyOf Try.f109) tabR tyR true cs109 lab x = o109_0 := by kernel_rfl
theorem w109 (x : PTs.den F109.ps) : F109.body (bodyOf Try.f109) tabR tyR true cs109 (F109.labX (bodyOf Try.f109) tabR tyR true cs109 (F109.labM (bodyOf Try.f109) tabR tyR true cs109 0) F109.D) x = o109_0 := by
  show F109.body (bodyOf Try.f109) tabR tyR true cs109 (F109.labX (bodyOf Try.f109) tabR tyR true cs109 (F109.labM (bodyOf Try.f109) tabR tyR true cs109 0) 2) x = _
  rw [p109_0]
theorem call109 : Callable Try.prog 109 := callable_of Try.func109 (by kernel_rfl) (by kernel_rfl)
theorem ok109 : Cal.Ok Try.prog ⟨109, F109.ps, F109.rs, F109.fr, fun _ => f109⟩ :=
  cal_of_fn F109 (code := bodyOf Try.f109) Try.func109 (by kernel_rfl) (by kernel_rfl) call109 htabR (cs := cs109) (fun c hc => by simp only [cs109, List.not_mem_nil] at hc) (fun _ => mixed) (by kernel_rfl) (by kernel_rfl) (by decide) (fun x => ⟨0, w109 x⟩)
-- tranship/deriv.Word
def o45_0 (a0 : Int) : Option ByteArray :=
  (f109).bind fun x1 =>
  if (decide (a0 < (1 : Int))) then
    some (⟨#[]⟩ : ByteArray)
  else
    if (decide ((x1.length : Int) < a0)) then
      some (⟨#[]⟩ : ByteArray)
    else
      ckI (a0 - (1 : Int)) <|
      atI x1 (a0 - (1 : Int)) fun x2 =>
      some x2
def f45 (a0 : Int) : Option ByteArray := o45_0 a0
def an45 : An := .z
def F45 : Fn := { f := 45, a := an45, vars := [.tmp 2], ps := [.sc .int], rs := [.sc .str], own := false, fr := true, nt := 18, D := 2, loops := [] }
def cs45 : List Cal := [⟨109, [], [.sl .str], true, fun a => f109⟩]
theorem p45_0 (lab : Nat → SS → Option (RT.den F45.rs)) (x : PTs.den F45.ps) : F45.body (bodyOf Try.f45) tabR tyR true cs45 lab x = o45_0 x.1 := by kernel_rfl
theorem w45 (x : PTs.den F45.ps) : F45.body (bodyOf Try.f45) tabR tyR true cs45 (F45.labX (bodyOf Try.f45) tabR tyR true cs45 (F45.labM (bodyOf Try.f45) tabR tyR true cs45 0) F45.D) x = o45_0 x.1 := by
  show F45.body (bodyOf Try.f45) tabR tyR true cs45 (F45.labX (bodyOf Try.f45) tabR tyR true cs45 (F45.labM (bodyOf Try.f45) tabR tyR true cs45 0) 2) x = _
  rw [p45_0]
theorem call45 : Callable Try.prog 45 := callable_of Try.func45 (by kernel_rfl) (by kernel_rfl)
theorem ok45 : Cal.Ok Try.prog ⟨45, F45.ps, F45.rs, F45.fr, fun a => f45 a.1⟩ :=
  cal_of_fn F45 (code := bodyOf Try.f45) Try.func45 (by kernel_rfl) (by kernel_rfl) call45 htabR (cs := cs45) (fun c hc => by
      simp only [cs45, List.mem_cons, List.not_mem_nil, or_false] at hc
      rcases hc with rfl
      · exact ok109) (fun _ => mixed) (by kernel_rfl) (by kernel_rfl) (by decide) (fun x => ⟨0, w45 x⟩)
-- tranship/deriv.Inner
def o48_0 (k1 : Int → Int → Bool → Option Bool) (a0 : Int) (a1 : Int) : Option Bool :=
  if (decide (a0 = (3 : Int))) then
    k1 a1 a0 (decide (a0 = (3 : Int)))
  else
    if (decide (a0 = (6 : Int))) then
      k1 a1 a0 (decide (a0 = (6 : Int)))
    else
      if (decide (a0 = (4 : Int))) then
        k1 a1 a0 (decide (a0 = (4 : Int)))
      else
        if (decide (a0 = (7 : Int))) then
          k1 a1 a0 (decide (a0 = (7 : Int)))
        else
          if (decide (a0 = (19 : Int))) then
            k1 a1 a0 (decide (a0 = (19 : Int)))
          else
            if (decide (a0 = (20 : Int))) then
              k1 a1 a0 (decide (a0 = (20 : Int)))
            else
              if (decide (a0 = (18 : Int))) then
                k1 a1 a0 (decide (a0 = (18 : Int)))
              else
                if (decide (a0 = (23 : Int))) then
                  k1 a1 a0 (decide (a0 = (23 : Int)))
                else
                  if (decide (a0 = (25 : Int))) then
                    k1 a1 a0 (decide (a0 = (25 : Int)))
                  else
                    if (decide (a0 = (26 : Int))) then
                      k1 a1 a0 (decide (a0 = (26 : Int)))
                    else
                      k1 a1 a0 (decide (a0 = (28 : Int)))
def o48_1 (t1 : Int) (t5 : Int) (t6 : Bool) : Option Bool :=
  if t6 then
    some (decide (t1 = (1 : Int)))
  else
    if (decide (t5 = (27 : Int))) then
      if (decide (t1 = (1 : Int))) then
        some true
      else
        some (decide (t1 = (2 : Int)))
    else
      some false
def c48_1 (t1 : Int) (t5 : Int) (t6 : Bool) : Option Bool :=
  o48_1 t1 t5 t6
def f48 (a0 : Int) (a1 : Int) : Option Bool := o48_0 (c48_1) a0 a1
def an48 : An := (.n none [] 0 .z (.n none [] 0 (.n none [] 0 .z (.n none [] 0 (.n (some 1) [(1, .one .c), (5, .one .c), (6, .one .c)] 0 .z .z) .z)) .z))
def F48 : Fn := { f := 48, a := an48, vars := [.tmp 4], ps := [.sc .int, .sc .int], rs := [.sc .bool], own := false, fr := true, nt := 28, D := 3, loops := [] }
def cs48 : List Cal := []
def st48_1 (t1 : Int) (t5 : Int) (t6 : Bool) : SS := ⟨[(1, .v (.one (.c (.int t1) true))), (5, .v (.one (.c (.int t5) true))), (6, .v (.one (.c (.bool t6) true)))], [], 0⟩
theorem p48_0 (lab : Nat → SS → Option (RT.den F48.rs)) (x : PTs.den F48.ps) : F48.body (bodyOf Try.f48) tabR tyR true cs48 lab x = o48_0 (fun t1 t5 t6 => lab 1 (st48_1 t1 t5 t6)) x.1 x.2.1 := by kernel_rfl
theorem p48_1 (lab : Nat → SS → Option (RT.den F48.rs)) (t1 : Int) (t5 : Int) (t6 : Bool) : F48.at (bodyOf Try.f48) tabR tyR true cs48 lab 1 (st48_1 t1 t5 t6) = o48_1 t1 t5 t6 := by kernel_rfl
theorem n48_1 (rec : Nat → SS → Option (RT.den F48.rs)) (d : Nat) (t1 : Int) (t5 : Int) (t6 : Bool) : F48.labD (bodyOf Try.f48) tabR tyR true cs48 rec (d + 1) 1 (st48_1 t1 t5 t6) = c48_1 t1 t5 t6 := by
  show F48.labD (bodyOf Try.f48) tabR tyR true cs48 rec (d + 1) 1 _ = _
  rw [Fn.labD_succ, p48_1]
  rfl
theorem w48 (x : PTs.den F48.ps) : F48.body (bodyOf Try.f48) tabR tyR true cs48 (F48.labX (bodyOf Try.f48) tabR tyR true cs48 (F48.labM (bodyOf Try.f48) tabR tyR true cs48 0) F48.D) x = o48_0 (c48_1) x.1 x.2.1 := by
  have e1 : ∀ t1 t5 t6, F48.labX (bodyOf Try.f48) tabR tyR true cs48 (F48.labM (bodyOf Try.f48) tabR tyR true cs48 0) 3 1 (st48_1 t1 t5 t6) = c48_1 t1 t5 t6 := fun t1 t5 t6 => (Fn.labX_step _ _ _ _ _ _ _ _ _ _ (by kernel_rfl)).trans (n48_1 (F48.labM (bodyOf Try.f48) tabR tyR true cs48 0) 2 t1 t5 t6)
  show F48.body (bodyOf Try.f48) tabR tyR true cs48 (F48.labX (bodyOf Try.f48) tabR tyR true cs48 (F48.labM (bodyOf Try.f48) tabR tyR true cs48 0) 3) x = _
  rw [p48_0]
  simp only [e1]
  try rfl
theorem call48 : Callable Try.prog 48 := callable_of Try.func48 (by kernel_rfl) (by kernel_rfl)
theorem ok48 : Cal.Ok Try.prog ⟨48, F48.ps, F48.rs, F48.fr, fun a => f48 a.1 a.2.1⟩ :=
  cal_of_fn F48 (code := bodyOf Try.f48) Try.func48 (by kernel_rfl) (by kernel_rfl) call48 htabR (cs := cs48) (fun c hc => by simp only [cs48, List.not_mem_nil] at hc) (fun _ => mixed) (by kernel_rfl) (by kernel_rfl) (by decide) (fun x => ⟨0, w48 x⟩)
-- tranship/deriv.Rule
def o53_0 (n : Nat) (k1 : ByteArray → (List ByteArray) → Int → Int → Option Int) (a0 : ByteArray) : Option Int :=
  (f109).bind fun x1 =>
  k1 a0 x1 (x1.length : Int) (0 : Int)
def o53_1 (n : Nat) (k1 : ByteArray → (List ByteArray) → Int → Int → Option Int) (t0 : ByteArray) (t5 : List ByteArray) (t6 : Int) (t7 : Int) : Option Int :=
  if (decide (t7 < t6)) then
    atI t5 t7 fun x2 =>
    if (x2.toList == t0.toList) then
      ckI (t7 + (1 : Int)) <|
      some (t7 + (1 : Int))
    else
      ckI (t7 + (1 : Int)) <|
      k1 t0 t5 t6 (t7 + (1 : Int))
  else
    some (0 : Int)
def l53_1 (n : Nat) : Nat → ByteArray → (List ByteArray) → Int → Int → Option Int
  | 0, _, _, _, _ => none
  | m + 1, t0, t5, t6, t7 => o53_1 n (l53_1 n m) t0 t5 t6 t7
def f53 (n : Nat) (a0 : ByteArray) : Option Int := o53_0 n (l53_1 n n) a0
def an53 : An := (.n none [] 0 .z (.n none [] 0 (.n none [] 0 .z (.n none [] 0 (.n (some 1) [(0, .one .c), (5, .one (.d .str true)), (6, .one .c), (7, .one .c)] 0 .z .z) .z)) .z))
def F53 : Fn := { f := 53, a := an53, vars := [.tmp 2], ps := [.sc .str], rs := [.sc .int], own := false, fr := true, nt := 18, D := 3, loops := [1] }
def cs53 (n : Nat) : List Cal := [⟨109, [], [.sl .str], true, fun a => f109⟩]
def st53_1 (t0 : ByteArray) (t5 : List ByteArray) (t6 : Int) (t7 : Int) : SS := ⟨[(0, .v (.one (.c (.str t0) true))), (5, .v (.one (.c (.sl .str t5) true))), (6, .v (.one (.c (.int t6) true))), (7, .v (.one (.c (.int t7) true)))], [], 0⟩
theorem p53_0 (n : Nat) (lab : Nat → SS → Option (RT.den F53.rs)) (x : PTs.den F53.ps) : F53.body (bodyOf Try.f53) tabR tyR true (cs53 n) lab x = o53_0 n (fun t0 t5 t6 t7 => lab 1 (st53_1 t0 t5 t6 t7)) x.1 := by kernel_rfl
theorem p53_1 (n : Nat) (lab : Nat → SS → Option (RT.den F53.rs)) (t0 : ByteArray) (t5 : List ByteArray) (t6 : Int) (t7 : Int) : F53.at (bodyOf Try.f53) tabR tyR true (cs53 n) lab 1 (st53_1 t0 t5 t6 t7) = o53_1 n (fun t0 t5 t6 t7 => lab 1 (st53_1 t0 t5 t6 t7)) t0 t5 t6 t7 := by kernel_rfl
theorem m53_1 (n : Nat) : ∀ m : Nat, (∀ t0 t5 t6 t7, F53.labM (bodyOf Try.f53) tabR tyR true (cs53 n) m 1 (st53_1 t0 t5 t6 t7) = l53_1 n m t0 t5 t6 t7) := by
  intro m
  induction m with
  | zero => exact fun _ _ _ _ => rfl
  | succ m ih =>
    intro t0 t5 t6 t7
    have e1 : ∀ t0 t5 t6 t7, F53.labX (bodyOf Try.f53) tabR tyR true (cs53 n) (F53.labM (bodyOf Try.f53) tabR tyR true (cs53 n) m) 2 1 (st53_1 t0 t5 t6 t7) = (l53_1 n m) t0 t5 t6 t7 := fun t0 t5 t6 t7 => (Fn.labX_loop _ _ _ _ _ _ _ _ _ _ (by kernel_rfl)).trans (ih t0 t5 t6 t7)
    rw [Fn.labM_succ]
    show F53.labD (bodyOf Try.f53) tabR tyR true (cs53 n) (F53.labM (bodyOf Try.f53) tabR tyR true (cs53 n) m) (2 + 1) 1 _ = _
    rw [Fn.labD_succ, p53_1]
    simp only [e1]
    rfl
theorem w53 (n : Nat) (x : PTs.den F53.ps) : F53.body (bodyOf Try.f53) tabR tyR true (cs53 n) (F53.labX (bodyOf Try.f53) tabR tyR true (cs53 n) (F53.labM (bodyOf Try.f53) tabR tyR true (cs53 n) n) F53.D) x = o53_0 n (l53_1 n n) x.1 := by
  have e1 : ∀ t0 t5 t6 t7, F53.labX (bodyOf Try.f53) tabR tyR true (cs53 n) (F53.labM (bodyOf Try.f53) tabR tyR true (cs53 n) n) 3 1 (st53_1 t0 t5 t6 t7) = (l53_1 n n) t0 t5 t6 t7 := fun t0 t5 t6 t7 => (Fn.labX_loop _ _ _ _ _ _ _ _ _ _ (by kernel_rfl)).trans ((m53_1 n n) t0 t5 t6 t7)
  show F53.body (bodyOf Try.f53) tabR tyR true (cs53 n) (F53.labX (bodyOf Try.f53) tabR tyR true (cs53 n) (F53.labM (bodyOf Try.f53) tabR tyR true (cs53 n) n) 3) x = _
  rw [p53_0]
  simp only [e1]
  try rfl
theorem call53 : Callable Try.prog 53 := callable_of Try.func53 (by kernel_rfl) (by kernel_rfl)
theorem ok53 (n : Nat) : Cal.Ok Try.prog ⟨53, F53.ps, F53.rs, F53.fr, fun a => f53 n a.1⟩ :=
  cal_of_fn F53 (code := bodyOf Try.f53) Try.func53 (by kernel_rfl) (by kernel_rfl) call53 htabR (cs := cs53 n) (fun c hc => by
      simp only [cs53, List.mem_cons, List.not_mem_nil, or_false] at hc
      rcases hc with rfl
      · exact ok109) (fun _ => mixed) (by kernel_rfl) (by kernel_rfl) (by decide) (fun x => ⟨n, w53 n x⟩)
-- tranship/transhipref11.Inner
def o49_0 (k1 : Int → Int → Bool → Option Bool) (a0 : Int) (a1 : Int) : Option Bool :=
  if (decide (a0 = (3 : Int))) then
    k1 a1 a0 (decide (a0 = (3 : Int)))
  else
    if (decide (a0 = (6 : Int))) then
      k1 a1 a0 (decide (a0 = (6 : Int)))
    else
      if (decide (a0 = (4 : Int))) then
        k1 a1 a0 (decide (a0 = (4 : Int)))
      else
        if (decide (a0 = (7 : Int))) then
          k1 a1 a0 (decide (a0 = (7 : Int)))
        else
          if (decide (a0 = (19 : Int))) then
            k1 a1 a0 (decide (a0 = (19 : Int)))
          else
            if (decide (a0 = (20 : Int))) then
              k1 a1 a0 (decide (a0 = (20 : Int)))
            else
              if (decide (a0 = (18 : Int))) then
                k1 a1 a0 (decide (a0 = (18 : Int)))
              else
                if (decide (a0 = (23 : Int))) then
                  k1 a1 a0 (decide (a0 = (23 : Int)))
                else
                  if (decide (a0 = (25 : Int))) then
                    k1 a1 a0 (decide (a0 = (25 : Int)))
                  else
                    if (decide (a0 = (26 : Int))) then
                      k1 a1 a0 (decide (a0 = (26 : Int)))
                    else
                      k1 a1 a0 (decide (a0 = (28 : Int)))
def o49_1 (t1 : Int) (t5 : Int) (t6 : Bool) : Option Bool :=
  if t6 then
    some (decide (t1 = (1 : Int)))
  else
    if (decide (t5 = (27 : Int))) then
      if (decide (t1 = (1 : Int))) then
        some true
      else
        some (decide (t1 = (2 : Int)))
    else
      some false
def c49_1 (t1 : Int) (t5 : Int) (t6 : Bool) : Option Bool :=
  o49_1 t1 t5 t6
def f49 (a0 : Int) (a1 : Int) : Option Bool := o49_0 (c49_1) a0 a1
def an49 : An := (.n none [] 0 .z (.n none [] 0 (.n none [] 0 .z (.n none [] 0 (.n (some 1) [(1, .one .c), (5, .one .c), (6, .one .c)] 0 .z .z) .z)) .z))
def F49 : Fn := { f := 49, a := an49, vars := [.tmp 4], ps := [.sc .int, .sc .int], rs := [.sc .bool], own := false, fr := true, nt := 28, D := 3, loops := [] }
def cs49 : List Cal := []
def st49_1 (t1 : Int) (t5 : Int) (t6 : Bool) : SS := ⟨[(1, .v (.one (.c (.int t1) true))), (5, .v (.one (.c (.int t5) true))), (6, .v (.one (.c (.bool t6) true)))], [], 0⟩
theorem p49_0 (lab : Nat → SS → Option (RT.den F49.rs)) (x : PTs.den F49.ps) : F49.body (bodyOf Try.f49) tabR tyR true cs49 lab x = o49_0 (fun t1 t5 t6 => lab 1 (st49_1 t1 t5 t6)) x.1 x.2.1 := by kernel_rfl
theorem p49_1 (lab : Nat → SS → Option (RT.den F49.rs)) (t1 : Int) (t5 : Int) (t6 : Bool) : F49.at (bodyOf Try.f49) tabR tyR true cs49 lab 1 (st49_1 t1 t5 t6) = o49_1 t1 t5 t6 := by kernel_rfl
theorem n49_1 (rec : Nat → SS → Option (RT.den F49.rs)) (d : Nat) (t1 : Int) (t5 : Int) (t6 : Bool) : F49.labD (bodyOf Try.f49) tabR tyR true cs49 rec (d + 1) 1 (st49_1 t1 t5 t6) = c49_1 t1 t5 t6 := by
  show F49.labD (bodyOf Try.f49) tabR tyR true cs49 rec (d + 1) 1 _ = _
  rw [Fn.labD_succ, p49_1]
  rfl
theorem w49 (x : PTs.den F49.ps) : F49.body (bodyOf Try.f49) tabR tyR true cs49 (F49.labX (bodyOf Try.f49) tabR tyR true cs49 (F49.labM (bodyOf Try.f49) tabR tyR true cs49 0) F49.D) x = o49_0 (c49_1) x.1 x.2.1 := by
  have e1 : ∀ t1 t5 t6, F49.labX (bodyOf Try.f49) tabR tyR true cs49 (F49.labM (bodyOf Try.f49) tabR tyR true cs49 0) 3 1 (st49_1 t1 t5 t6) = c49_1 t1 t5 t6 := fun t1 t5 t6 => (Fn.labX_step _ _ _ _ _ _ _ _ _ _ (by kernel_rfl)).trans (n49_1 (F49.labM (bodyOf Try.f49) tabR tyR true cs49 0) 2 t1 t5 t6)
  show F49.body (bodyOf Try.f49) tabR tyR true cs49 (F49.labX (bodyOf Try.f49) tabR tyR true cs49 (F49.labM (bodyOf Try.f49) tabR tyR true cs49 0) 3) x = _
  rw [p49_0]
  simp only [e1]
  try rfl
theorem call49 : Callable Try.prog 49 := callable_of Try.func49 (by kernel_rfl) (by kernel_rfl)
theorem ok49 : Cal.Ok Try.prog ⟨49, F49.ps, F49.rs, F49.fr, fun a => f49 a.1 a.2.1⟩ :=
  cal_of_fn F49 (code := bodyOf Try.f49) Try.func49 (by kernel_rfl) (by kernel_rfl) call49 htabR (cs := cs49) (fun c hc => by simp only [cs49, List.not_mem_nil] at hc) (fun _ => mixed) (by kernel_rfl) (by kernel_rfl) (by decide) (fun x => ⟨0, w49 x⟩)
-- tranship/deriv.Equal
def o50_0 (a0 : Int) : Option Bool :=
  if (decide ((13 : Int) ≤ a0)) then
    some (decide (a0 ≤ (28 : Int)))
  else
    some false
def f50 (a0 : Int) : Option Bool := o50_0 a0
def an50 : An := .z
def F50 : Fn := { f := 50, a := an50, vars := [.tmp 2], ps := [.sc .int], rs := [.sc .bool], own := false, fr := true, nt := 9, D := 2, loops := [] }
def cs50 : List Cal := []
theorem p50_0 (lab : Nat → SS → Option (RT.den F50.rs)) (x : PTs.den F50.ps) : F50.body (bodyOf Try.f50) tabR tyR true cs50 lab x = o50_0 x.1 := by kernel_rfl
theorem w50 (x : PTs.den F50.ps) : F50.body (bodyOf Try.f50) tabR tyR true cs50 (F50.labX (bodyOf Try.f50) tabR tyR true cs50 (F50.labM (bodyOf Try.f50) tabR tyR true cs50 0) F50.D) x = o50_0 x.1 := by
  show F50.body (bodyOf Try.f50) tabR tyR true cs50 (F50.labX (bodyOf Try.f50) tabR tyR true cs50 (F50.labM (bodyOf Try.f50) tabR tyR true cs50 0) 2) x = _
  rw [p50_0]
theorem call50 : Callable Try.prog 50 := callable_of Try.func50 (by kernel_rfl) (by kernel_rfl)
theorem ok50 : Cal.Ok Try.prog ⟨50, F50.ps, F50.rs, F50.fr, fun a => f50 a.1⟩ :=
  cal_of_fn F50 (code := bodyOf Try.f50) Try.func50 (by kernel_rfl) (by kernel_rfl) call50 htabR (cs := cs50) (fun c hc => by simp only [cs50, List.not_mem_nil] at hc) (fun _ => mixed) (by kernel_rfl) (by kernel_rfl) (by decide) (fun x => ⟨0, w50 x⟩)
-- tranship/transhipref11.Equal
def o51_0 (a0 : Int) : Option Bool :=
  if (decide ((13 : Int) ≤ a0)) then
    some (decide (a0 ≤ (28 : Int)))
  else
    some false
def f51 (a0 : Int) : Option Bool := o51_0 a0
def an51 : An := .z
def F51 : Fn := { f := 51, a := an51, vars := [.tmp 2], ps := [.sc .int], rs := [.sc .bool], own := false, fr := true, nt := 9, D := 2, loops := [] }
def cs51 : List Cal := []
theorem p51_0 (lab : Nat → SS → Option (RT.den F51.rs)) (x : PTs.den F51.ps) : F51.body (bodyOf Try.f51) tabR tyR true cs51 lab x = o51_0 x.1 := by kernel_rfl
theorem w51 (x : PTs.den F51.ps) : F51.body (bodyOf Try.f51) tabR tyR true cs51 (F51.labX (bodyOf Try.f51) tabR tyR true cs51 (F51.labM (bodyOf Try.f51) tabR tyR true cs51 0) F51.D) x = o51_0 x.1 := by
  show F51.body (bodyOf Try.f51) tabR tyR true cs51 (F51.labX (bodyOf Try.f51) tabR tyR true cs51 (F51.labM (bodyOf Try.f51) tabR tyR true cs51 0) 2) x = _
  rw [p51_0]
theorem call51 : Callable Try.prog 51 := callable_of Try.func51 (by kernel_rfl) (by kernel_rfl)
theorem ok51 : Cal.Ok Try.prog ⟨51, F51.ps, F51.rs, F51.fr, fun a => f51 a.1⟩ :=
  cal_of_fn F51 (code := bodyOf Try.f51) Try.func51 (by kernel_rfl) (by kernel_rfl) call51 htabR (cs := cs51) (fun c hc => by simp only [cs51, List.not_mem_nil] at hc) (fun _ => mixed) (by kernel_rfl) (by kernel_rfl) (by decide) (fun x => ⟨0, w51 x⟩)
-- tranship/transhipref11.Words
def o110_0 : Option ((List ByteArray)) :=
  some [(⟨#[115, 111, 114, 116]⟩ : ByteArray), (⟨#[118, 97, 114]⟩ : ByteArray), (⟨#[112, 105]⟩ : ByteArray), (⟨#[108, 97, 109]⟩ : ByteArray), (⟨#[97, 112, 112]⟩ : ByteArray), (⟨#[115, 105, 103]⟩ : ByteArray), (⟨#[112, 97, 105, 114]⟩ : ByteArray), (⟨#[102, 115, 116]⟩ : ByteArray), (⟨#[115, 110, 100]⟩ : ByteArray), (⟨#[101, 113]⟩ : ByteArray), (⟨#[114, 101, 102, 108]⟩ : ByteArray), (⟨#[99, 111, 110, 118]⟩ : ByteArray), (⟨#[115, 97, 109, 101]⟩ : ByteArray), (⟨#[115, 121, 109]⟩ : ByteArray), (⟨#[116, 114, 97, 110, 115]⟩ : ByteArray), (⟨#[99, 111, 110, 118, 115]⟩ : ByteArray), (⟨#[114, 101, 102, 108, 101, 99, 116]⟩ : ByteArray), (⟨#[98, 101, 116, 97]⟩ : ByteArray), (⟨#[102, 105, 114, 115, 116]⟩ : ByteArray), (⟨#[115, 101, 99, 111, 110, 100]⟩ : ByteArray), (⟨#[101, 116, 97]⟩ : ByteArray), (⟨#[115, 117, 114, 106]⟩ : ByteArray), (⟨#[114, 101, 112, 108]⟩ : ByteArray), (⟨#[105, 114, 114]⟩ : ByteArray), (⟨#[120, 112, 105]⟩ : ByteArray), (⟨#[120, 115, 105, 103]⟩ : ByteArray), (⟨#[120, 108, 97, 109]⟩ : ByteArray), (⟨#[120, 112, 97, 105, 114]⟩ : ByteArray)]
def f110 : Option ((List ByteArray)) := o110_0
def an110 : An := .z
def F110 : Fn := { f := 110, a := an110, vars := [.tmp 0], ps := [], rs := [.sl .str], own := false, fr := true, nt := 2, D := 2, loops := [] }
def cs110 : List Cal := []
theorem p110_0 (lab : Nat → SS → Option (RT.den F110.rs)) (x : PTs.den F110.ps) : F110.body (bodyOf Try.f110) tabR tyR true cs110 lab x = o110_0 := by kernel_rfl
theorem w110 (x : PTs.den F110.ps) : F110.body (bodyOf Try.f110) tabR tyR true cs110 (F110.labX (bodyOf Try.f110) tabR tyR true cs110 (F110.labM (bodyOf Try.f110) tabR tyR true cs110 0) F110.D) x = o110_0 := by
  show F110.body (bodyOf Try.f110) tabR tyR true cs110 (F110.labX (bodyOf Try.f110) tabR tyR true cs110 (F110.labM (bodyOf Try.f110) tabR tyR true cs110 0) 2) x = _
  rw [p110_0]
theorem call110 : Callable Try.prog 110 := callable_of Try.func110 (by kernel_rfl) (by kernel_rfl)
theorem ok110 : Cal.Ok Try.prog ⟨110, F110.ps, F110.rs, F110.fr, fun _ => f110⟩ :=
  cal_of_fn F110 (code := bodyOf Try.f110) Try.func110 (by kernel_rfl) (by kernel_rfl) call110 htabR (cs := cs110) (fun c hc => by simp only [cs110, List.not_mem_nil] at hc) (fun _ => mixed) (by kernel_rfl) (by kernel_rfl) (by decide) (fun x => ⟨0, w110 x⟩)
-- tranship/transhipref11.Word
def o52_0 (a0 : Int) : Option ByteArray :=
  if (decide (a0 < (1 : Int))) then
    some (⟨#[]⟩ : ByteArray)
  else
    if (decide ((28 : Int) < a0)) then
      some (⟨#[]⟩ : ByteArray)
    else
      (f110).bind fun x1 =>
      ckI (a0 - (1 : Int)) <|
      atI x1 (a0 - (1 : Int)) fun x2 =>
      some x2
def f52 (a0 : Int) : Option ByteArray := o52_0 a0
def an52 : An := .z
def F52 : Fn := { f := 52, a := an52, vars := [.tmp 2], ps := [.sc .int], rs := [.sc .str], own := false, fr := true, nt := 14, D := 2, loops := [] }
def cs52 : List Cal := [⟨110, [], [.sl .str], true, fun a => f110⟩]
theorem p52_0 (lab : Nat → SS → Option (RT.den F52.rs)) (x : PTs.den F52.ps) : F52.body (bodyOf Try.f52) tabR tyR true cs52 lab x = o52_0 x.1 := by kernel_rfl
theorem w52 (x : PTs.den F52.ps) : F52.body (bodyOf Try.f52) tabR tyR true cs52 (F52.labX (bodyOf Try.f52) tabR tyR true cs52 (F52.labM (bodyOf Try.f52) tabR tyR true cs52 0) F52.D) x = o52_0 x.1 := by
  show F52.body (bodyOf Try.f52) tabR tyR true cs52 (F52.labX (bodyOf Try.f52) tabR tyR true cs52 (F52.labM (bodyOf Try.f52) tabR tyR true cs52 0) 2) x = _
  rw [p52_0]
theorem call52 : Callable Try.prog 52 := callable_of Try.func52 (by kernel_rfl) (by kernel_rfl)
theorem ok52 : Cal.Ok Try.prog ⟨52, F52.ps, F52.rs, F52.fr, fun a => f52 a.1⟩ :=
  cal_of_fn F52 (code := bodyOf Try.f52) Try.func52 (by kernel_rfl) (by kernel_rfl) call52 htabR (cs := cs52) (fun c hc => by
      simp only [cs52, List.mem_cons, List.not_mem_nil, or_false] at hc
      rcases hc with rfl
      · exact ok110) (fun _ => mixed) (by kernel_rfl) (by kernel_rfl) (by decide) (fun x => ⟨0, w52 x⟩)
-- tranship/transhipref11.Rule
def o54_0 (n : Nat) (k1 : ByteArray → (List ByteArray) → Int → Option Int) (a0 : ByteArray) : Option Int :=
  (f110).bind fun x1 =>
  k1 a0 x1 (0 : Int)
def o54_1 (n : Nat) (k1 : ByteArray → (List ByteArray) → Int → Option Int) (t0 : ByteArray) (t3 : List ByteArray) (t4 : Int) : Option Int :=
  if (decide (t4 < (t3.length : Int))) then
    atI t3 t4 fun x2 =>
    if (x2.toList == t0.toList) then
      ckI (t4 + (1 : Int)) <|
      some (t4 + (1 : Int))
    else
      ckI (t4 + (1 : Int)) <|
      k1 t0 t3 (t4 + (1 : Int))
  else
    some (0 : Int)
def l54_1 (n : Nat) : Nat → ByteArray → (List ByteArray) → Int → Option Int
  | 0, _, _, _ => none
  | m + 1, t0, t3, t4 => o54_1 n (l54_1 n m) t0 t3 t4
def f54 (n : Nat) (a0 : ByteArray) : Option Int := o54_0 n (l54_1 n n) a0
def an54 : An := (.n none [] 0 .z (.n none [] 0 .z (.n none [] 0 (.n none [] 0 .z (.n none [] 0 (.n (some 1) [(0, .one .c), (3, .one (.d .str true)), (4, .one .c)] 0 .z .z) .z)) .z)))
def F54 : Fn := { f := 54, a := an54, vars := [.tmp 2], ps := [.sc .str], rs := [.sc .int], own := false, fr := true, nt := 20, D := 3, loops := [1] }
def cs54 (n : Nat) : List Cal := [⟨110, [], [.sl .str], true, fun a => f110⟩]
def st54_1 (t0 : ByteArray) (t3 : List ByteArray) (t4 : Int) : SS := ⟨[(0, .v (.one (.c (.str t0) true))), (3, .v (.one (.c (.sl .str t3) true))), (4, .v (.one (.c (.int t4) true)))], [], 0⟩
theorem p54_0 (n : Nat) (lab : Nat → SS → Option (RT.den F54.rs)) (x : PTs.den F54.ps) : F54.body (bodyOf Try.f54) tabR tyR true (cs54 n) lab x = o54_0 n (fun t0 t3 t4 => lab 1 (st54_1 t0 t3 t4)) x.1 := by kernel_rfl
theorem p54_1 (n : Nat) (lab : Nat → SS → Option (RT.den F54.rs)) (t0 : ByteArray) (t3 : List ByteArray) (t4 : Int) : F54.at (bodyOf Try.f54) tabR tyR true (cs54 n) lab 1 (st54_1 t0 t3 t4) = o54_1 n (fun t0 t3 t4 => lab 1 (st54_1 t0 t3 t4)) t0 t3 t4 := by kernel_rfl
theorem m54_1 (n : Nat) : ∀ m : Nat, (∀ t0 t3 t4, F54.labM (bodyOf Try.f54) tabR tyR true (cs54 n) m 1 (st54_1 t0 t3 t4) = l54_1 n m t0 t3 t4) := by
  intro m
  induction m with
  | zero => exact fun _ _ _ => rfl
  | succ m ih =>
    intro t0 t3 t4
    have e1 : ∀ t0 t3 t4, F54.labX (bodyOf Try.f54) tabR tyR true (cs54 n) (F54.labM (bodyOf Try.f54) tabR tyR true (cs54 n) m) 2 1 (st54_1 t0 t3 t4) = (l54_1 n m) t0 t3 t4 := fun t0 t3 t4 => (Fn.labX_loop _ _ _ _ _ _ _ _ _ _ (by kernel_rfl)).trans (ih t0 t3 t4)
    rw [Fn.labM_succ]
    show F54.labD (bodyOf Try.f54) tabR tyR true (cs54 n) (F54.labM (bodyOf Try.f54) tabR tyR true (cs54 n) m) (2 + 1) 1 _ = _
    rw [Fn.labD_succ, p54_1]
    simp only [e1]
    rfl
theorem w54 (n : Nat) (x : PTs.den F54.ps) : F54.body (bodyOf Try.f54) tabR tyR true (cs54 n) (F54.labX (bodyOf Try.f54) tabR tyR true (cs54 n) (F54.labM (bodyOf Try.f54) tabR tyR true (cs54 n) n) F54.D) x = o54_0 n (l54_1 n n) x.1 := by
  have e1 : ∀ t0 t3 t4, F54.labX (bodyOf Try.f54) tabR tyR true (cs54 n) (F54.labM (bodyOf Try.f54) tabR tyR true (cs54 n) n) 3 1 (st54_1 t0 t3 t4) = (l54_1 n n) t0 t3 t4 := fun t0 t3 t4 => (Fn.labX_loop _ _ _ _ _ _ _ _ _ _ (by kernel_rfl)).trans ((m54_1 n n) t0 t3 t4)
  show F54.body (bodyOf Try.f54) tabR tyR true (cs54 n) (F54.labX (bodyOf Try.f54) tabR tyR true (cs54 n) (F54.labM (bodyOf Try.f54) tabR tyR true (cs54 n) n) 3) x = _
  rw [p54_0]
  simp only [e1]
  try rfl
theorem call54 : Callable Try.prog 54 := callable_of Try.func54 (by kernel_rfl) (by kernel_rfl)
theorem ok54 (n : Nat) : Cal.Ok Try.prog ⟨54, F54.ps, F54.rs, F54.fr, fun a => f54 n a.1⟩ :=
  cal_of_fn F54 (code := bodyOf Try.f54) Try.func54 (by kernel_rfl) (by kernel_rfl) call54 htabR (cs := cs54 n) (fun c hc => by
      simp only [cs54, List.mem_cons, List.not_mem_nil, or_false] at hc
      rcases hc with rfl
      · exact ok110) (fun _ => mixed) (by kernel_rfl) (by kernel_rfl) (by decide) (fun x => ⟨n, w54 n x⟩)
-- tranship/deriv.Same
def o55_0 (s55 : Dv → Dv → Option Bool) (n : Nat) (k1 : Dv → Dv → Option Bool) (a0 : Dv) (a1 : Dv) : Option Bool :=
  if (!decide (a0.rule = a1.rule)) then
    some false
  else
    if (!decide (a0.i = a1.i)) then
      some false
    else
      if (!decide ((a0.kids.length : Int) = (a1.kids.length : Int))) then
        some false
      else
        k1 a0 a1
def o55_1 (s55 : Dv → Dv → Option Bool) (n : Nat) (k2 : Dv → Dv → Int → Int → Option Bool) (t2 : Dv) (t3 : Dv) : Option Bool :=
  k2 t2 t3 (t2.kids.length : Int) (0 : Int)
def o55_2 (s55 : Dv → Dv → Option Bool) (n : Nat) (k2 : Dv → Dv → Int → Int → Option Bool) (t2 : Dv) (t3 : Dv) (t29 : Int) (t30 : Int) : Option Bool :=
  if (decide (t30 < t29)) then
    atI t2.kids t30 fun x1 =>
    atI t3.kids t30 fun x2 =>
    (s55 x1 x2).bind fun x3 =>
    if (!x3) then
      some false
    else
      ckI (t30 + (1 : Int)) <|
      k2 t2 t3 t29 (t30 + (1 : Int))
  else
    some true
def c55_1 (s55 : Dv → Dv → Option Bool) (n : Nat) (k2 : Dv → Dv → Int → Int → Option Bool) (t2 : Dv) (t3 : Dv) : Option Bool :=
  o55_1 s55 n k2 t2 t3
def l55_2 (s55 : Dv → Dv → Option Bool) (n : Nat) : Nat → Dv → Dv → Int → Int → Option Bool
  | 0, _, _, _, _ => none
  | m + 1, t2, t3, t29, t30 => o55_2 s55 n (l55_2 s55 n m) t2 t3 t29 t30
def f55 : Nat → Dv → Dv → Option Bool
  | 0, _, _ => none
  | n + 1, a0, a1 => o55_0 (f55 n) n (c55_1 (f55 n) n (l55_2 (f55 n) n n)) a0 a1
def an55 : An := (.n none [] 0 .z (.n (some 1) [(2, .ps 0 .dv false), (3, .ps 1 .dv false)] 2 .z (.n none [] 0 (.n none [] 0 .z (.n none [] 0 (.n (some 2) [(2, .ps 0 .dv false), (3, .ps 1 .dv false), (29, .one .c), (30, .one .c)] 2 .z .z) .z)) .z)))
def F55 : Fn := { f := 55, a := an55, vars := [.tmp 4], ps := [.st .dv, .st .dv], rs := [.sc .bool], own := false, fr := true, nt := 46, D := 4, loops := [2] }
def cs55 (s55 : Dv → Dv → Option Bool) (n : Nat) : List Cal := [⟨55, [.st .dv, .st .dv], [.sc .bool], true, fun a => s55 a.1 a.2.1⟩]
def st55_1 (t2 : Dv) (t3 : Dv) : SS := ⟨[(2, .v (.one (.ptr 0 0))), (3, .v (.one (.ptr 1 0)))], [(0, some (.bst .dv t2 false)), (1, some (.bst .dv t3 false))], 2⟩
def st55_2 (t2 : Dv) (t3 : Dv) (t29 : Int) (t30 : Int) : SS := ⟨[(2, .v (.one (.ptr 0 0))), (3, .v (.one (.ptr 1 0))), (29, .v (.one (.c (.int t29) true))), (30, .v (.one (.c (.int t30) true)))], [(0, some (.bst .dv t2 false)), (1, some (.bst .dv t3 false))], 2⟩
theorem p55_0 (s55 : Dv → Dv → Option Bool) (n : Nat) (lab : Nat → SS → Option (RT.den F55.rs)) (x : PTs.den F55.ps) : F55.body (bodyOf Try.f55) tabR tyR true (cs55 s55 n) lab x = o55_0 s55 n (fun t2 t3 => lab 1 (st55_1 t2 t3)) x.1 x.2.1 := by kernel_rfl
theorem p55_1 (s55 : Dv → Dv → Option Bool) (n : Nat) (lab : Nat → SS → Option (RT.den F55.rs)) (t2 : Dv) (t3 : Dv) : F55.at (bodyOf Try.f55) tabR tyR true (cs55 s55 n) lab 1 (st55_1 t2 t3) = o55_1 s55 n (fun t2 t3 t29 t30 => lab 2 (st55_2 t2 t3 t29 t30)) t2 t3 := by kernel_rfl
theorem p55_2 (s55 : Dv → Dv → Option Bool) (n : Nat) (lab : Nat → SS → Option (RT.den F55.rs)) (t2 : Dv) (t3 : Dv) (t29 : Int) (t30 : Int) : F55.at (bodyOf Try.f55) tabR tyR true (cs55 s55 n) lab 2 (st55_2 t2 t3 t29 t30) = o55_2 s55 n (fun t2 t3 t29 t30 => lab 2 (st55_2 t2 t3 t29 t30)) t2 t3 t29 t30 := by kernel_rfl
theorem n55_1 (s55 : Dv → Dv → Option Bool) (n : Nat) (rec : Nat → SS → Option (RT.den F55.rs)) (k2 : Dv → Dv → Int → Int → Option Bool) (h2 : ∀ t2 t3 t29 t30, rec 2 (st55_2 t2 t3 t29 t30) = k2 t2 t3 t29 t30) (d : Nat) (t2 : Dv) (t3 : Dv) : F55.labD (bodyOf Try.f55) tabR tyR true (cs55 s55 n) rec (d + 1) 1 (st55_1 t2 t3) = c55_1 s55 n k2 t2 t3 := by
  have e2 : ∀ t2 t3 t29 t30, F55.labX (bodyOf Try.f55) tabR tyR true (cs55 s55 n) rec d 2 (st55_2 t2 t3 t29 t30) = k2 t2 t3 t29 t30 := fun t2 t3 t29 t30 => (Fn.labX_loop _ _ _ _ _ _ _ _ _ _ (by kernel_rfl)).trans (h2 t2 t3 t29 t30)
  show F55.labD (bodyOf Try.f55) tabR tyR true (cs55 s55 n) rec (d + 1) 1 _ = _
  rw [Fn.labD_succ, p55_1]
  simp only [e2]
  rfl
theorem m55_2 (s55 : Dv → Dv → Option Bool) (n : Nat) : ∀ m : Nat, (∀ t2 t3 t29 t30, F55.labM (bodyOf Try.f55) tabR tyR true (cs55 s55 n) m 2 (st55_2 t2 t3 t29 t30) = l55_2 s55 n m t2 t3 t29 t30) := by
  intro m
  induction m with
  | zero => exact fun _ _ _ _ => rfl
  | succ m ih =>
    intro t2 t3 t29 t30
    have e2 : ∀ t2 t3 t29 t30, F55.labX (bodyOf Try.f55) tabR tyR true (cs55 s55 n) (F55.labM (bodyOf Try.f55) tabR tyR true (cs55 s55 n) m) 3 2 (st55_2 t2 t3 t29 t30) = (l55_2 s55 n m) t2 t3 t29 t30 := fun t2 t3 t29 t30 => (Fn.labX_loop _ _ _ _ _ _ _ _ _ _ (by kernel_rfl)).trans (ih t2 t3 t29 t30)
    rw [Fn.labM_succ]
    show F55.labD (bodyOf Try.f55) tabR tyR true (cs55 s55 n) (F55.labM (bodyOf Try.f55) tabR tyR true (cs55 s55 n) m) (3 + 1) 2 _ = _
    rw [Fn.labD_succ, p55_2]
    simp only [e2]
    rfl
theorem w55 (s55 : Dv → Dv → Option Bool) (n : Nat) (x : PTs.den F55.ps) : F55.body (bodyOf Try.f55) tabR tyR true (cs55 s55 n) (F55.labX (bodyOf Try.f55) tabR tyR true (cs55 s55 n) (F55.labM (bodyOf Try.f55) tabR tyR true (cs55 s55 n) n) F55.D) x = o55_0 s55 n (c55_1 s55 n (l55_2 s55 n n)) x.1 x.2.1 := by
  have e1 : ∀ t2 t3, F55.labX (bodyOf Try.f55) tabR tyR true (cs55 s55 n) (F55.labM (bodyOf Try.f55) tabR tyR true (cs55 s55 n) n) 4 1 (st55_1 t2 t3) = c55_1 s55 n (l55_2 s55 n n) t2 t3 := fun t2 t3 => (Fn.labX_step _ _ _ _ _ _ _ _ _ _ (by kernel_rfl)).trans (n55_1 s55 n (F55.labM (bodyOf Try.f55) tabR tyR true (cs55 s55 n) n) (l55_2 s55 n n) (m55_2 s55 n n) 3 t2 t3)
  show F55.body (bodyOf Try.f55) tabR tyR true (cs55 s55 n) (F55.labX (bodyOf Try.f55) tabR tyR true (cs55 s55 n) (F55.labM (bodyOf Try.f55) tabR tyR true (cs55 s55 n) n) 4) x = _
  rw [p55_0]
  simp only [e1]
  try rfl
theorem call55 : Callable Try.prog 55 := callable_of Try.func55 (by kernel_rfl) (by kernel_rfl)
theorem okr55 : ∀ n : Nat, Cal.Ok Try.prog ⟨55, F55.ps, F55.rs, F55.fr, fun a => f55 n a.1 a.2.1⟩
  | 0 => ⟨by kernel_rfl, fun a r h => by cases h⟩
  | n + 1 => cal_of_fn F55 (code := bodyOf Try.f55) Try.func55 (by kernel_rfl) (by kernel_rfl) call55 htabR (cs := cs55 (f55 n) n) (fun c hc => by
      simp only [cs55, List.mem_cons, List.not_mem_nil, or_false] at hc
      rcases hc with rfl
      · exact (okr55 n)) (fun _ => mixed) (by kernel_rfl) (by kernel_rfl) (by decide) (fun x => ⟨n, w55 (f55 n) n x⟩)
theorem ok55 (n : Nat) : Cal.Ok Try.prog ⟨55, F55.ps, F55.rs, F55.fr, fun a => f55 n a.1 a.2.1⟩ := (okr55 n)
-- tranship/transhipkeep.TwinDeriv, tranship/transhipkeep.TwinDerivs
def o56_0 (s56 : Dv → Option Dv) (s111 : (List Dv) → Option ((List Dv))) (n : Nat) (a0 : Dv) : Option Dv :=
  (s111 a0.kids).bind fun x1 =>
  some (Dv.mk a0.rule a0.i x1)
def o111_0 (s56 : Dv → Option Dv) (s111 : (List Dv) → Option ((List Dv))) (n : Nat) (k1 : (List Dv) → (List Dv) → Int → Option ((List Dv))) (a0 : List Dv) : Option ((List Dv)) :=
  k1 a0 ([] : List Dv) (0 : Int)
def o111_1 (s56 : Dv → Option Dv) (s111 : (List Dv) → Option ((List Dv))) (n : Nat) (k1 : (List Dv) → (List Dv) → Int → Option ((List Dv))) (t0 : List Dv) (t3 : List Dv) (t4 : Int) : Option ((List Dv)) :=
  if (decide (t4 < (t0.length : Int))) then
    atI t0 t4 fun x1 =>
    (s56 x1).bind fun x2 =>
    ckB (decide ((t3.length + [(Dv.mk x2.rule x2.i x2.kids)].length) * 40 ≤ 140737488355328) && decide (t3.length + [(Dv.mk x2.rule x2.i x2.kids)].length ≤ 9223372036854775807)) <|
    ckI (t4 + (1 : Int)) <|
    k1 t0 (t3 ++ [(Dv.mk x2.rule x2.i x2.kids)]) (t4 + (1 : Int))
  else
    some t3
def l111_1 (s56 : Dv → Option Dv) (s111 : (List Dv) → Option ((List Dv))) (n : Nat) : Nat → (List Dv) → (List Dv) → Int → Option ((List Dv))
  | 0, _, _, _ => none
  | m + 1, t0, t3, t4 => o111_1 s56 s111 n (l111_1 s56 s111 n m) t0 t3 t4
mutual
def f56 : Nat → Dv → Option Dv
  | 0, _ => none
  | n + 1, a0 => o56_0 (f56 n) (f111 n) n a0
def f111 : Nat → (List Dv) → Option ((List Dv))
  | 0, _ => none
  | n + 1, a0 => o111_0 (f56 n) (f111 n) n (l111_1 (f56 n) (f111 n) n n) a0
end
def an56 : An := .z
def F56 : Fn := { f := 56, a := an56, vars := [.cell 2 24], ps := [.st .dv], rs := [.st .dv], own := false, fr := true, nt := 11, D := 2, loops := [] }
def cs56 (s56 : Dv → Option Dv) (s111 : (List Dv) → Option ((List Dv))) (n : Nat) : List Cal := [⟨111, [.sl .dv], [.sl .dv], true, fun a => s111 a.1⟩]
theorem p56_0 (s56 : Dv → Option Dv) (s111 : (List Dv) → Option ((List Dv))) (n : Nat) (lab : Nat → SS → Option (RT.den F56.rs)) (x : PTs.den F56.ps) : F56.body (bodyOf Try.f56) tabR tyR true (cs56 s56 s111 n) lab x = o56_0 s56 s111 n x.1 := by kernel_rfl
theorem w56 (s56 : Dv → Option Dv) (s111 : (List Dv) → Option ((List Dv))) (n : Nat) (x : PTs.den F56.ps) : F56.body (bodyOf Try.f56) tabR tyR true (cs56 s56 s111 n) (F56.labX (bodyOf Try.f56) tabR tyR true (cs56 s56 s111 n) (F56.labM (bodyOf Try.f56) tabR tyR true (cs56 s56 s111 n) 0) F56.D) x = o56_0 s56 s111 n x.1 := by
  show F56.body (bodyOf Try.f56) tabR tyR true (cs56 s56 s111 n) (F56.labX (bodyOf Try.f56) tabR tyR true (cs56 s56 s111 n) (F56.labM (bodyOf Try.f56) tabR tyR true (cs56 s56 s111 n) 0) 2) x = _
  rw [p56_0]
theorem call56 : Callable Try.prog 56 := callable_of Try.func56 (by kernel_rfl) (by kernel_rfl)
def an111 : An := (.n none [] 0 .z (.n none [] 0 .z (.n none [] 0 (.n none [] 0 .z (.n none [] 0 (.n (some 1) [(0, .one (.d .dv false)), (3, .one (.r 0 24 .dv true)), (4, .one .c)] 1 .z .z) .z)) .z)))
def F111 : Fn := { f := 111, a := an111, vars := [.tmp 2], ps := [.sl .dv], rs := [.sl .dv], own := false, fr := true, nt := 20, D := 3, loops := [1] }
def cs111 (s56 : Dv → Option Dv) (s111 : (List Dv) → Option ((List Dv))) (n : Nat) : List Cal := [⟨56, [.st .dv], [.st .dv], true, fun a => s56 a.1⟩]
def st111_1 (t0 : List Dv) (t3 : List Dv) (t4 : Int) : SS := ⟨[(0, .v (.one (.c (.sl .dv t0) false))), (3, .v (.one (.arr 0))), (4, .v (.one (.c (.int t4) true)))], [(0, some (.row 24 .dv t3 true))], 1⟩
theorem p111_0 (s56 : Dv → Option Dv) (s111 : (List Dv) → Option ((List Dv))) (n : Nat) (lab : Nat → SS → Option (RT.den F111.rs)) (x : PTs.den F111.ps) : F111.body (bodyOf Try.f111) tabR tyR true (cs111 s56 s111 n) lab x = o111_0 s56 s111 n (fun t0 t3 t4 => lab 1 (st111_1 t0 t3 t4)) x.1 := by kernel_rfl
theorem p111_1 (s56 : Dv → Option Dv) (s111 : (List Dv) → Option ((List Dv))) (n : Nat) (lab : Nat → SS → Option (RT.den F111.rs)) (t0 : List Dv) (t3 : List Dv) (t4 : Int) : F111.at (bodyOf Try.f111) tabR tyR true (cs111 s56 s111 n) lab 1 (st111_1 t0 t3 t4) = o111_1 s56 s111 n (fun t0 t3 t4 => lab 1 (st111_1 t0 t3 t4)) t0 t3 t4 := by kernel_rfl
theorem m111_1 (s56 : Dv → Option Dv) (s111 : (List Dv) → Option ((List Dv))) (n : Nat) : ∀ m : Nat, (∀ t0 t3 t4, F111.labM (bodyOf Try.f111) tabR tyR true (cs111 s56 s111 n) m 1 (st111_1 t0 t3 t4) = l111_1 s56 s111 n m t0 t3 t4) := by
  intro m
  induction m with
  | zero => exact fun _ _ _ => rfl
  | succ m ih =>
    intro t0 t3 t4
    have e1 : ∀ t0 t3 t4, F111.labX (bodyOf Try.f111) tabR tyR true (cs111 s56 s111 n) (F111.labM (bodyOf Try.f111) tabR tyR true (cs111 s56 s111 n) m) 2 1 (st111_1 t0 t3 t4) = (l111_1 s56 s111 n m) t0 t3 t4 := fun t0 t3 t4 => (Fn.labX_loop _ _ _ _ _ _ _ _ _ _ (by kernel_rfl)).trans (ih t0 t3 t4)
    rw [Fn.labM_succ]
    show F111.labD (bodyOf Try.f111) tabR tyR true (cs111 s56 s111 n) (F111.labM (bodyOf Try.f111) tabR tyR true (cs111 s56 s111 n) m) (2 + 1) 1 _ = _
    rw [Fn.labD_succ, p111_1]
    simp only [e1]
    rfl
theorem w111 (s56 : Dv → Option Dv) (s111 : (List Dv) → Option ((List Dv))) (n : Nat) (x : PTs.den F111.ps) : F111.body (bodyOf Try.f111) tabR tyR true (cs111 s56 s111 n) (F111.labX (bodyOf Try.f111) tabR tyR true (cs111 s56 s111 n) (F111.labM (bodyOf Try.f111) tabR tyR true (cs111 s56 s111 n) n) F111.D) x = o111_0 s56 s111 n (l111_1 s56 s111 n n) x.1 := by
  have e1 : ∀ t0 t3 t4, F111.labX (bodyOf Try.f111) tabR tyR true (cs111 s56 s111 n) (F111.labM (bodyOf Try.f111) tabR tyR true (cs111 s56 s111 n) n) 3 1 (st111_1 t0 t3 t4) = (l111_1 s56 s111 n n) t0 t3 t4 := fun t0 t3 t4 => (Fn.labX_loop _ _ _ _ _ _ _ _ _ _ (by kernel_rfl)).trans ((m111_1 s56 s111 n n) t0 t3 t4)
  show F111.body (bodyOf Try.f111) tabR tyR true (cs111 s56 s111 n) (F111.labX (bodyOf Try.f111) tabR tyR true (cs111 s56 s111 n) (F111.labM (bodyOf Try.f111) tabR tyR true (cs111 s56 s111 n) n) 3) x = _
  rw [p111_0]
  simp only [e1]
  try rfl
theorem call111 : Callable Try.prog 111 := callable_of Try.func111 (by kernel_rfl) (by kernel_rfl)
theorem okr56 : ∀ n : Nat, Cal.Ok Try.prog ⟨56, F56.ps, F56.rs, F56.fr, fun a => f56 n a.1⟩ ∧ Cal.Ok Try.prog ⟨111, F111.ps, F111.rs, F111.fr, fun a => f111 n a.1⟩
  | 0 => ⟨⟨by kernel_rfl, fun a r h => by cases h⟩, ⟨by kernel_rfl, fun a r h => by cases h⟩⟩
  | n + 1 => ⟨cal_of_fn F56 (code := bodyOf Try.f56) Try.func56 (by kernel_rfl) (by kernel_rfl) call56 htabR (cs := cs56 (f56 n) (f111 n) n) (fun c hc => by
      simp only [cs56, List.mem_cons, List.not_mem_nil, or_false] at hc
      rcases hc with rfl
      · exact (okr56 n).2) (fun _ => mixed) (by kernel_rfl) (by kernel_rfl) (by decide) (fun x => ⟨0, w56 (f56 n) (f111 n) n x⟩),
    cal_of_fn F111 (code := bodyOf Try.f111) Try.func111 (by kernel_rfl) (by kernel_rfl) call111 htabR (cs := cs111 (f56 n) (f111 n) n) (fun c hc => by
      simp only [cs111, List.mem_cons, List.not_mem_nil, or_false] at hc
      rcases hc with rfl
      · exact (okr56 n).1) (fun _ => mixed) (by kernel_rfl) (by kernel_rfl) (by decide) (fun x => ⟨n, w111 (f56 n) (f111 n) n x⟩)⟩
theorem ok56 (n : Nat) : Cal.Ok Try.prog ⟨56, F56.ps, F56.rs, F56.fr, fun a => f56 n a.1⟩ := (okr56 n).1
theorem ok111 (n : Nat) : Cal.Ok Try.prog ⟨111, F111.ps, F111.rs, F111.fr, fun a => f111 n a.1⟩ := (okr56 n).2
end Go.Proofs.Yteaglcbnkephgaa
