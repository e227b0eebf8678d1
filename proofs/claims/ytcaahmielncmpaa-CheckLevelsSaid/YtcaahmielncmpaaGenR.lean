/-
  What the rules and their copies compute.
-/
import Derived.Test.YtcaahmielncmpaaGenC
import Derived.Test.YtcaahmielncmpaaGenD
set_option linter.unusedSimpArgs false
set_option linter.unusedVariables false
namespace Go.Proofs.Ytcaahmielncmpaa
open Go Go.RowKit
set_option maxRecDepth 100000
-- tranship/rule.pure
def o105_0 (n : Nat) (k1 : (List Ent) → Int → Int → Option Bool) (a0 : List Ent) : Option Bool :=
  (f41 n a0).bind fun x1 =>
  ifB (!x1) (
    some false) (
    k1 a0 (a0.length : Int) (0 : Int))
def o105_1 (n : Nat) (k1 : (List Ent) → Int → Int → Option Bool) (t8 : List Ent) (t9 : Int) (t10 : Int) : Option Bool :=
  ifB (decide (t10 < t9)) (
    atI t8 t10 fun x2 =>
    (f136 n x2.a).bind fun x3 =>
    ifB (!x3) (
      some false) (
      ckI (t10 + (1 : Int)) <|
      k1 t8 t9 (t10 + (1 : Int)))) (
    some true)
def l105_1 (n : Nat) : Nat → (List Ent) → Int → Int → Option Bool
  | 0, _, _, _ => none
  | m + 1, t8, t9, t10 => o105_1 n (l105_1 n m) t8 t9 t10
def f105 (n : Nat) (a0 : List Ent) : Option Bool := o105_0 n (l105_1 n n) a0
def an105 : An := (.n none [] 0 .z (.n none [] 0 .z (.n none [] 0 (.n none [] 0 .z (.n none [] 0 (.n (some 1) [(8, .one (.d .ent false)), (9, .one .c), (10, .one .c)] 0 .z .z) .z)) .z)))
def F105 : Fn := { f := 105, a := an105, vars := [.tmp 2], ps := [.sl .ent], rs := [.sc .bool], own := false, fr := true, nt := 19, D := 3, loops := [1] }
def cs105 (n : Nat) : List Cal := [⟨41, [.sl .ent], [.sc .bool], true, fun a => f41 n a.1⟩, ⟨136, [.st .tm], [.sc .bool], true, fun a => f136 n a.1⟩]
def st105_1 (t8 : List Ent) (t9 : Int) (t10 : Int) : SS := ⟨[(8, .v (.one (.c (.sl .ent t8) false))), (9, .v (.one (.c (.int t9) true))), (10, .v (.one (.c (.int t10) true)))], [], 0⟩
theorem p105_0 (n : Nat) (lab : Nat → SS → Option (RT.den F105.rs)) (x : PTs.den F105.ps) : F105.body (bodyOf Try.f105) tabR tyR true (cs105 n) lab x = o105_0 n (fun t8 t9 t10 => lab 1 (st105_1 t8 t9 t10)) x.1 := by kernel_rfl
theorem p105_1 (n : Nat) (lab : Nat → SS → Option (RT.den F105.rs)) (t8 : List Ent) (t9 : Int) (t10 : Int) : F105.at (bodyOf Try.f105) tabR tyR true (cs105 n) lab 1 (st105_1 t8 t9 t10) = o105_1 n (fun t8 t9 t10 => lab 1 (st105_1 t8 t9 t10)) t8 t9 t10 := by kernel_rfl
theorem m105_1 (n : Nat) : ∀ m : Nat, (∀ t8 t9 t10, F105.labM (bodyOf Try.f105) tabR tyR true (cs105 n) m 1 (st105_1 t8 t9 t10) = l105_1 n m t8 t9 t10) := by
  intro m
  induction m with
  | zero => exact fun _ _ _ => rfl
  | succ m ih =>
    intro t8 t9 t10
    have e1 : ∀ t8 t9 t10, F105.labX (bodyOf Try.f105) tabR tyR true (cs105 n) (F105.labM (bodyOf Try.f105) tabR tyR true (cs105 n) m) 2 1 (st105_1 t8 t9 t10) = (l105_1 n m) t8 t9 t10 := fun t8 t9 t10 => (Fn.labX_loop _ _ _ _ _ _ _ _ _ _ (by kernel_rfl)).trans (ih t8 t9 t10)
    rw [Fn.labM_succ]
    show F105.labD (bodyOf Try.f105) tabR tyR true (cs105 n) (F105.labM (bodyOf Try.f105) tabR tyR true (cs105 n) m) (2 + 1) 1 _ = _
    rw [Fn.labD_succ, p105_1]
    simp only [e1]
    rfl
theorem w105 (n : Nat) (x : PTs.den F105.ps) : F105.body (bodyOf Try.f105) tabR tyR true (cs105 n) (F105.labX (bodyOf Try.f105) tabR tyR true (cs105 n) (F105.labM (bodyOf Try.f105) tabR tyR true (cs105 n) n) F105.D) x = o105_0 n (l105_1 n n) x.1 := by
  have e1 : ∀ t8 t9 t10, F105.labX (bodyOf Try.f105) tabR tyR true (cs105 n) (F105.labM (bodyOf Try.f105) tabR tyR true (cs105 n) n) 3 1 (st105_1 t8 t9 t10) = (l105_1 n n) t8 t9 t10 := fun t8 t9 t10 => (Fn.labX_loop _ _ _ _ _ _ _ _ _ _ (by kernel_rfl)).trans ((m105_1 n n) t8 t9 t10)
  show F105.body (bodyOf Try.f105) tabR tyR true (cs105 n) (F105.labX (bodyOf Try.f105) tabR tyR true (cs105 n) (F105.labM (bodyOf Try.f105) tabR tyR true (cs105 n) n) 3) x = _
  rw [p105_0]
  simp only [e1]
  try rfl
theorem call105 : Callable Try.prog 105 := callable_of Try.func105 (by kernel_rfl) (by kernel_rfl)
theorem ok105 (n : Nat) : Cal.Ok Try.prog ⟨105, F105.ps, F105.rs, F105.fr, fun a => f105 n a.1⟩ :=
  cal_of_fn F105 (code := bodyOf Try.f105) Try.func105 (by kernel_rfl) (by kernel_rfl) call105 htabR (cs := cs105 n) (fun c hc => by
      simp only [cs105, List.mem_cons, List.not_mem_nil, or_false] at hc
      rcases hc with rfl | rfl
      · exact ok41 n
      · exact ok136 n) (fun _ => mixed) (by kernel_rfl) (by kernel_rfl) (by decide) (fun x => ⟨n, w105 n x⟩)
-- tranship/rule.right$1
def o137_0 (n : Nat) (a0 : Tm) (a1 : Int × Unit) : Option Bool :=
  (f136 n a0).bind fun x1 =>
  ifB x1 (
    (f99 n a0).bind fun x2 =>
    some (decide (x2 ≤ a1.1))) (
    some false)
def f137 (n : Nat) (a0 : Tm) (a1 : Int × Unit) : Option Bool := o137_0 n a0 a1
def an137 : An := .z
def F137 : Fn := { f := 137, a := an137, vars := [.tmp 3], ps := [.st .tm, .ro [(false, .int)]], rs := [.sc .bool], own := false, fr := true, nt := 12, D := 2, loops := [] }
def cs137 (n : Nat) : List Cal := [⟨99, [.st .tm], [.sc .int], true, fun a => f99 n a.1⟩, ⟨136, [.st .tm], [.sc .bool], true, fun a => f136 n a.1⟩]
theorem p137_0 (n : Nat) (lab : Nat → SS → Option (RT.den F137.rs)) (x : PTs.den F137.ps) : F137.body (bodyOf Try.f137) tabR tyR true (cs137 n) lab x = o137_0 n x.1 x.2.1 := by kernel_rfl
theorem w137 (n : Nat) (x : PTs.den F137.ps) : F137.body (bodyOf Try.f137) tabR tyR true (cs137 n) (F137.labX (bodyOf Try.f137) tabR tyR true (cs137 n) (F137.labM (bodyOf Try.f137) tabR tyR true (cs137 n) 0) F137.D) x = o137_0 n x.1 x.2.1 := by
  show F137.body (bodyOf Try.f137) tabR tyR true (cs137 n) (F137.labX (bodyOf Try.f137) tabR tyR true (cs137 n) (F137.labM (bodyOf Try.f137) tabR tyR true (cs137 n) 0) 2) x = _
  rw [p137_0]
theorem call137 : Callable Try.prog 137 := callable_of Try.func137 (by kernel_rfl) (by kernel_rfl)
theorem ok137 (n : Nat) : Cal.Ok Try.prog ⟨137, F137.ps, F137.rs, F137.fr, fun a => f137 n a.1 a.2.1⟩ :=
  cal_of_fn F137 (code := bodyOf Try.f137) Try.func137 (by kernel_rfl) (by kernel_rfl) call137 htabR (cs := cs137 n) (fun c hc => by
      simp only [cs137, List.mem_cons, List.not_mem_nil, or_false] at hc
      rcases hc with rfl | rfl
      · exact ok99 n
      · exact ok136 n) (fun _ => mixed) (by kernel_rfl) (by kernel_rfl) (by decide) (fun x => ⟨0, w137 n x⟩)
-- tranship/rule.nothing
def o138_0 (a0 : Tm) : Option Bool :=
  ifB (decide (a0.kind = (0 : Int))) (
    ifB (decide (a0.i = (0 : Int))) (
      ifB (decide (a0.j = (0 : Int))) (
        ifB (decide (a0.n = (0 : Int))) (
          some (decide ((a0.kids.length : Int) = (0 : Int)))) (
          some false)) (
        some false)) (
      some false)) (
    some false)
def f138 (a0 : Tm) : Option Bool := o138_0 a0
def an138 : An := .z
def F138 : Fn := { f := 138, a := an138, vars := [.tmp 2], ps := [.st .tm], rs := [.sc .bool], own := false, fr := true, nt := 27, D := 2, loops := [] }
def cs138 : List Cal := []
theorem p138_0 (lab : Nat → SS → Option (RT.den F138.rs)) (x : PTs.den F138.ps) : F138.body (bodyOf Try.f138) tabR tyR true cs138 lab x = o138_0 x.1 := by kernel_rfl
theorem w138 (x : PTs.den F138.ps) : F138.body (bodyOf Try.f138) tabR tyR true cs138 (F138.labX (bodyOf Try.f138) tabR tyR true cs138 (F138.labM (bodyOf Try.f138) tabR tyR true cs138 0) F138.D) x = o138_0 x.1 := by
  show F138.body (bodyOf Try.f138) tabR tyR true cs138 (F138.labX (bodyOf Try.f138) tabR tyR true cs138 (F138.labM (bodyOf Try.f138) tabR tyR true cs138 0) 2) x = _
  rw [p138_0]
theorem call138 : Callable Try.prog 138 := callable_of Try.func138 (by kernel_rfl) (by kernel_rfl)
theorem ok138 : Cal.Ok Try.prog ⟨138, F138.ps, F138.rs, F138.fr, fun a => f138 a.1⟩ :=
  cal_of_fn F138 (code := bodyOf Try.f138) Try.func138 (by kernel_rfl) (by kernel_rfl) call138 htabR (cs := cs138) (fun c hc => by simp only [cs138, List.not_mem_nil] at hc) (fun _ => mixed) (by kernel_rfl) (by kernel_rfl) (by decide) (fun x => ⟨0, w138 x⟩)
-- tranship/rule.right
def o108_0 (n : Nat) (k1 : Jd → Int → Option Bool) (a0 : Jd) (a1 : Int) : Option Bool :=
  ifB (decide (a0.i < (0 : Int))) (
    some false) (
    ifB (decide ((1000 : Int) < a0.i)) (
      some false) (
      (f137 n a0.u (a1, ())).bind fun x1 =>
      ifB (!x1) (
        some false) (
        (f137 n a0.a (a1, ())).bind fun x2 =>
        ifB (!x2) (
          some false) (
          k1 a0 a1))))
def o108_1 (n : Nat) (t2 : Jd) (t5_0 : Int) : Option Bool :=
  ifB t2.eq (
    (f137 n t2.v (t5_0, ())).bind fun x3 =>
    some x3) (
    (f138 t2.v).bind fun x4 =>
    some x4)
def c108_1 (n : Nat) (t2 : Jd) (t5_0 : Int) : Option Bool :=
  o108_1 n t2 t5_0
def f108 (n : Nat) (a0 : Jd) (a1 : Int) : Option Bool := o108_0 n (c108_1 n) a0 a1
def an108 : An := (.n none [] 0 .z (.n none [] 0 .z (.n (some 1) [(2, .ps 0 .jd false), (5, .f 1 137 [.c])] 2 .z .z)))
def F108 : Fn := { f := 108, a := an108, vars := [.tmp 4], ps := [.st .jd, .sc .int], rs := [.sc .bool], own := false, fr := true, nt := 38, D := 3, loops := [] }
def cs108 (n : Nat) : List Cal := [⟨137, [.st .tm, .ro [(false, .int)]], [.sc .bool], true, fun a => f137 n a.1 a.2.1⟩, ⟨138, [.st .tm], [.sc .bool], true, fun a => f138 a.1⟩]
def st108_1 (t2 : Jd) (t5_0 : Int) : SS := ⟨[(2, .v (.one (.ptr 0 0))), (5, .v (.one (.fn 137 1)))], [(0, some (.bst .jd t2 false)), (1, some (.box [.c (.int t5_0) true]))], 2⟩
theorem p108_0 (n : Nat) (lab : Nat → SS → Option (RT.den F108.rs)) (x : PTs.den F108.ps) : F108.body (bodyOf Try.f108) tabR tyR true (cs108 n) lab x = o108_0 n (fun t2 t5_0 => lab 1 (st108_1 t2 t5_0)) x.1 x.2.1 := by kernel_rfl
theorem p108_1 (n : Nat) (lab : Nat → SS → Option (RT.den F108.rs)) (t2 : Jd) (t5_0 : Int) : F108.at (bodyOf Try.f108) tabR tyR true (cs108 n) lab 1 (st108_1 t2 t5_0) = o108_1 n t2 t5_0 := by kernel_rfl
theorem n108_1 (n : Nat) (rec : Nat → SS → Option (RT.den F108.rs)) (d : Nat) (t2 : Jd) (t5_0 : Int) : F108.labD (bodyOf Try.f108) tabR tyR true (cs108 n) rec (d + 1) 1 (st108_1 t2 t5_0) = c108_1 n t2 t5_0 := by
  show F108.labD (bodyOf Try.f108) tabR tyR true (cs108 n) rec (d + 1) 1 _ = _
  rw [Fn.labD_succ, p108_1]
  rfl
theorem w108 (n : Nat) (x : PTs.den F108.ps) : F108.body (bodyOf Try.f108) tabR tyR true (cs108 n) (F108.labX (bodyOf Try.f108) tabR tyR true (cs108 n) (F108.labM (bodyOf Try.f108) tabR tyR true (cs108 n) 0) F108.D) x = o108_0 n (c108_1 n) x.1 x.2.1 := by
  have e1 : ∀ t2 t5_0, F108.labX (bodyOf Try.f108) tabR tyR true (cs108 n) (F108.labM (bodyOf Try.f108) tabR tyR true (cs108 n) 0) 3 1 (st108_1 t2 t5_0) = c108_1 n t2 t5_0 := fun t2 t5_0 => (Fn.labX_step _ _ _ _ _ _ _ _ _ _ (by kernel_rfl)).trans (n108_1 n (F108.labM (bodyOf Try.f108) tabR tyR true (cs108 n) 0) 2 t2 t5_0)
  show F108.body (bodyOf Try.f108) tabR tyR true (cs108 n) (F108.labX (bodyOf Try.f108) tabR tyR true (cs108 n) (F108.labM (bodyOf Try.f108) tabR tyR true (cs108 n) 0) 3) x = _
  rw [p108_0]
  simp only [e1]
  try rfl
theorem call108 : Callable Try.prog 108 := callable_of Try.func108 (by kernel_rfl) (by kernel_rfl)
theorem ok108 (n : Nat) : Cal.Ok Try.prog ⟨108, F108.ps, F108.rs, F108.fr, fun a => f108 n a.1 a.2.1⟩ :=
  cal_of_fn F108 (code := bodyOf Try.f108) Try.func108 (by kernel_rfl) (by kernel_rfl) call108 htabR (cs := cs108 n) (fun c hc => by
      simp only [cs108, List.mem_cons, List.not_mem_nil, or_false] at hc
      rcases hc with rfl | rfl
      · exact ok137 n
      · exact ok138) (fun _ => mixed) (by kernel_rfl) (by kernel_rfl) (by decide) (fun x => ⟨0, w108 n x⟩)
-- tranship/rule.typed
def o139_0 (a0 : Jd) (a1 : Bool) : Option (Int × Bool) :=
  ifB (a0.eq == a1) (
    ifB (decide (a0.a.kind = (1 : Int))) (
      ckI (a0.a.i + (1 : Int)) <|
      some (a0.a.i, (decide (a0.i = (a0.a.i + (1 : Int)))))) (
      some (a0.a.i, false))) (
    some (a0.a.i, false))
def f139 (a0 : Jd) (a1 : Bool) : Option (Int × Bool) := o139_0 a0 a1
def an139 : An := .z
def F139 : Fn := { f := 139, a := an139, vars := [.tmp 4, .tmp 5], ps := [.st .jd, .sc .bool], rs := [.sc .int, .sc .bool], own := false, fr := true, nt := 30, D := 2, loops := [] }
def cs139 : List Cal := []
theorem p139_0 (lab : Nat → SS → Option (RT.den F139.rs)) (x : PTs.den F139.ps) : F139.body (bodyOf Try.f139) tabR tyR true cs139 lab x = o139_0 x.1 x.2.1 := by kernel_rfl
theorem w139 (x : PTs.den F139.ps) : F139.body (bodyOf Try.f139) tabR tyR true cs139 (F139.labX (bodyOf Try.f139) tabR tyR true cs139 (F139.labM (bodyOf Try.f139) tabR tyR true cs139 0) F139.D) x = o139_0 x.1 x.2.1 := by
  show F139.body (bodyOf Try.f139) tabR tyR true cs139 (F139.labX (bodyOf Try.f139) tabR tyR true cs139 (F139.labM (bodyOf Try.f139) tabR tyR true cs139 0) 2) x = _
  rw [p139_0]
theorem call139 : Callable Try.prog 139 := callable_of Try.func139 (by kernel_rfl) (by kernel_rfl)
theorem ok139 : Cal.Ok Try.prog ⟨139, F139.ps, F139.rs, F139.fr, fun a => f139 a.1 a.2.1⟩ :=
  cal_of_fn F139 (code := bodyOf Try.f139) Try.func139 (by kernel_rfl) (by kernel_rfl) call139 htabR (cs := cs139) (fun c hc => by simp only [cs139, List.not_mem_nil] at hc) (fun _ => mixed) (by kernel_rfl) (by kernel_rfl) (by decide) (fun x => ⟨0, w139 x⟩)
-- tranship/rule.entry
def o109_0 (k1 : Jd → Int → Int → Int → Int → Int → Int → Bool → Option (Ent × Bool)) (a0 : Int) (a1 : Jd) : Option (Ent × Bool) :=
  ifB (decide (a0 = (3 : Int))) (
    k1 a1 (0 : Int) (0 : Int) (0 : Int) (0 : Int) (0 : Int) a0 (decide (a0 = (3 : Int)))) (
    ifB (decide (a0 = (6 : Int))) (
      k1 a1 (0 : Int) (0 : Int) (0 : Int) (0 : Int) (0 : Int) a0 (decide (a0 = (6 : Int)))) (
      k1 a1 (0 : Int) (0 : Int) (0 : Int) (0 : Int) (0 : Int) a0 (decide (a0 = (4 : Int)))))
def o109_1 (k2 : Jd → Int → Int → Int → Int → Int → Int → Bool → Option (Ent × Bool)) (t3 : Jd) (t4_0 : Int) (t4_1 : Int) (t4_2 : Int) (t4_3 : Int) (t4_5 : Int) (t10 : Int) (t11 : Bool) : Option (Ent × Bool) :=
  ifB t11 (
    (f139 t3 false).bind fun x1 =>
    some ((Ent.mk (Tm.mk t3.u.kind t3.u.i t3.u.j t3.u.n t3.u.kids) x1.1), x1.2)) (
    ifB (decide (t10 = (25 : Int))) (
      k2 t3 t4_0 t4_1 t4_2 t4_3 t4_5 t10 (decide (t10 = (25 : Int)))) (
      ifB (decide (t10 = (26 : Int))) (
        k2 t3 t4_0 t4_1 t4_2 t4_3 t4_5 t10 (decide (t10 = (26 : Int)))) (
        ifB (decide (t10 = (27 : Int))) (
          k2 t3 t4_0 t4_1 t4_2 t4_3 t4_5 t10 (decide (t10 = (27 : Int)))) (
          k2 t3 t4_0 t4_1 t4_2 t4_3 t4_5 t10 (decide (t10 = (28 : Int)))))))
def o109_2 (t3 : Jd) (t4_0 : Int) (t4_1 : Int) (t4_2 : Int) (t4_3 : Int) (t4_5 : Int) (t10 : Int) (t25 : Bool) : Option (Ent × Bool) :=
  ifB t25 (
    (f139 t3 true).bind fun x2 =>
    some ((Ent.mk (Tm.mk t3.u.kind t3.u.i t3.u.j t3.u.n t3.u.kids) x2.1), x2.2)) (
    ifB (decide (t10 = (23 : Int))) (
      some ((Ent.mk (Tm.mk t3.a.kind t3.a.i t3.a.j t3.a.n t3.a.kids) t3.i), t3.eq)) (
      some ((Ent.mk (Tm.mk t3.a.kind t3.a.i t3.a.j t3.a.n t3.a.kids) t3.i), (!t3.eq))))
def c109_2 (t3 : Jd) (t4_0 : Int) (t4_1 : Int) (t4_2 : Int) (t4_3 : Int) (t4_5 : Int) (t10 : Int) (t25 : Bool) : Option (Ent × Bool) :=
  o109_2 t3 t4_0 t4_1 t4_2 t4_3 t4_5 t10 t25
def c109_1 (t3 : Jd) (t4_0 : Int) (t4_1 : Int) (t4_2 : Int) (t4_3 : Int) (t4_5 : Int) (t10 : Int) (t11 : Bool) : Option (Ent × Bool) :=
  o109_1 (c109_2) t3 t4_0 t4_1 t4_2 t4_3 t4_5 t10 t11
def f109 (a0 : Int) (a1 : Jd) : Option (Ent × Bool) := o109_0 (c109_1) a0 a1
def an109 : An := (.n none [] 0 .z (.n none [] 0 (.n none [] 0 .z (.n none [] 0 (.n (some 1) [(3, .ps 0 .jd false), (4, .p 1 [.c, .c, .c, .c, .k, .c]), (10, .one .c), (11, .one .c)] 2 .z (.n none [] 0 .z (.n (some 2) [(3, .ps 0 .jd false), (4, .p 1 [.c, .c, .c, .c, .k, .c]), (10, .one .c), (25, .one .c)] 2 .z .z))) .z)) .z))
def F109 : Fn := { f := 109, a := an109, vars := [.cell 4 45, .tmp 5], ps := [.sc .int, .st .jd], rs := [.st .ent, .sc .bool], own := false, fr := false, nt := 57, D := 4, loops := [] }
def cs109 : List Cal := [⟨139, [.st .jd, .sc .bool], [.sc .int, .sc .bool], true, fun a => f139 a.1 a.2.1⟩]
def st109_1 (t3 : Jd) (t4_0 : Int) (t4_1 : Int) (t4_2 : Int) (t4_3 : Int) (t4_5 : Int) (t10 : Int) (t11 : Bool) : SS := ⟨[(3, .v (.one (.ptr 0 0))), (4, .v (.one (.ptr 1 0))), (10, .v (.one (.c (.int t10) true))), (11, .v (.one (.c (.bool t11) true)))], [(0, some (.bst .jd t3 false)), (1, some (.box [.c (.int t4_0) true, .c (.int t4_1) true, .c (.int t4_2) true, .c (.int t4_3) true, .nils, .c (.int t4_5) true]))], 2⟩
def st109_2 (t3 : Jd) (t4_0 : Int) (t4_1 : Int) (t4_2 : Int) (t4_3 : Int) (t4_5 : Int) (t10 : Int) (t25 : Bool) : SS := ⟨[(3, .v (.one (.ptr 0 0))), (4, .v (.one (.ptr 1 0))), (10, .v (.one (.c (.int t10) true))), (25, .v (.one (.c (.bool t25) true)))], [(0, some (.bst .jd t3 false)), (1, some (.box [.c (.int t4_0) true, .c (.int t4_1) true, .c (.int t4_2) true, .c (.int t4_3) true, .nils, .c (.int t4_5) true]))], 2⟩
theorem p109_0 (lab : Nat → SS → Option (RT.den F109.rs)) (x : PTs.den F109.ps) : F109.body (bodyOf Try.f109) tabR tyR true cs109 lab x = o109_0 (fun t3 t4_0 t4_1 t4_2 t4_3 t4_5 t10 t11 => lab 1 (st109_1 t3 t4_0 t4_1 t4_2 t4_3 t4_5 t10 t11)) x.1 x.2.1 := by kernel_rfl
theorem p109_1 (lab : Nat → SS → Option (RT.den F109.rs)) (t3 : Jd) (t4_0 : Int) (t4_1 : Int) (t4_2 : Int) (t4_3 : Int) (t4_5 : Int) (t10 : Int) (t11 : Bool) : F109.at (bodyOf Try.f109) tabR tyR true cs109 lab 1 (st109_1 t3 t4_0 t4_1 t4_2 t4_3 t4_5 t10 t11) = o109_1 (fun t3 t4_0 t4_1 t4_2 t4_3 t4_5 t10 t25 => lab 2 (st109_2 t3 t4_0 t4_1 t4_2 t4_3 t4_5 t10 t25)) t3 t4_0 t4_1 t4_2 t4_3 t4_5 t10 t11 := by kernel_rfl
theorem p109_2 (lab : Nat → SS → Option (RT.den F109.rs)) (t3 : Jd) (t4_0 : Int) (t4_1 : Int) (t4_2 : Int) (t4_3 : Int) (t4_5 : Int) (t10 : Int) (t25 : Bool) : F109.at (bodyOf Try.f109) tabR tyR true cs109 lab 2 (st109_2 t3 t4_0 t4_1 t4_2 t4_3 t4_5 t10 t25) = o109_2 t3 t4_0 t4_1 t4_2 t4_3 t4_5 t10 t25 := by kernel_rfl
theorem n109_2 (rec : Nat → SS → Option (RT.den F109.rs)) (d : Nat) (t3 : Jd) (t4_0 : Int) (t4_1 : Int) (t4_2 : Int) (t4_3 : Int) (t4_5 : Int) (t10 : Int) (t25 : Bool) : F109.labD (bodyOf Try.f109) tabR tyR true cs109 rec (d + 1) 2 (st109_2 t3 t4_0 t4_1 t4_2 t4_3 t4_5 t10 t25) = c109_2 t3 t4_0 t4_1 t4_2 t4_3 t4_5 t10 t25 := by
  show F109.labD (bodyOf Try.f109) tabR tyR true cs109 rec (d + 1) 2 _ = _
  rw [Fn.labD_succ, p109_2]
  rfl
theorem n109_1 (rec : Nat → SS → Option (RT.den F109.rs)) (d : Nat) (t3 : Jd) (t4_0 : Int) (t4_1 : Int) (t4_2 : Int) (t4_3 : Int) (t4_5 : Int) (t10 : Int) (t11 : Bool) : F109.labD (bodyOf Try.f109) tabR tyR true cs109 rec (d + 2) 1 (st109_1 t3 t4_0 t4_1 t4_2 t4_3 t4_5 t10 t11) = c109_1 t3 t4_0 t4_1 t4_2 t4_3 t4_5 t10 t11 := by
  have e2 : ∀ t3 t4_0 t4_1 t4_2 t4_3 t4_5 t10 t25, F109.labX (bodyOf Try.f109) tabR tyR true cs109 rec (d + 1) 2 (st109_2 t3 t4_0 t4_1 t4_2 t4_3 t4_5 t10 t25) = c109_2 t3 t4_0 t4_1 t4_2 t4_3 t4_5 t10 t25 := fun t3 t4_0 t4_1 t4_2 t4_3 t4_5 t10 t25 => (Fn.labX_step _ _ _ _ _ _ _ _ _ _ (by kernel_rfl)).trans (n109_2 rec d t3 t4_0 t4_1 t4_2 t4_3 t4_5 t10 t25)
  show F109.labD (bodyOf Try.f109) tabR tyR true cs109 rec ((d + 1) + 1) 1 _ = _
  rw [Fn.labD_succ, p109_1]
  simp only [e2]
  rfl
theorem w109 (x : PTs.den F109.ps) : F109.body (bodyOf Try.f109) tabR tyR true cs109 (F109.labX (bodyOf Try.f109) tabR tyR true cs109 (F109.labM (bodyOf Try.f109) tabR tyR true cs109 0) F109.D) x = o109_0 (c109_1) x.1 x.2.1 := by
  have e1 : ∀ t3 t4_0 t4_1 t4_2 t4_3 t4_5 t10 t11, F109.labX (bodyOf Try.f109) tabR tyR true cs109 (F109.labM (bodyOf Try.f109) tabR tyR true cs109 0) 4 1 (st109_1 t3 t4_0 t4_1 t4_2 t4_3 t4_5 t10 t11) = c109_1 t3 t4_0 t4_1 t4_2 t4_3 t4_5 t10 t11 := fun t3 t4_0 t4_1 t4_2 t4_3 t4_5 t10 t11 => (Fn.labX_step _ _ _ _ _ _ _ _ _ _ (by kernel_rfl)).trans (n109_1 (F109.labM (bodyOf Try.f109) tabR tyR true cs109 0) 2 t3 t4_0 t4_1 t4_2 t4_3 t4_5 t10 t11)
  show F109.body (bodyOf Try.f109) tabR tyR true cs109 (F109.labX (bodyOf Try.f109) tabR tyR true cs109 (F109.labM (bodyOf Try.f109) tabR tyR true cs109 0) 4) x = _
  rw [p109_0]
  simp only [e1]
  try rfl
theorem call109 : Callable Try.prog 109 := callable_of Try.func109 (by kernel_rfl) (by kernel_rfl)
theorem ok109 : Cal.Ok Try.prog ⟨109, F109.ps, F109.rs, F109.fr, fun a => f109 a.1 a.2.1⟩ :=
  cal_of_fn F109 (code := bodyOf Try.f109) Try.func109 (by kernel_rfl) (by kernel_rfl) call109 htabR (cs := cs109) (fun c hc => by
      simp only [cs109, List.mem_cons, List.not_mem_nil, or_false] at hc
      rcases hc with rfl
      · exact ok139) (fun _ => mixed) (by kernel_rfl) (by kernel_rfl) (by decide) (fun x => ⟨0, w109 x⟩)
-- tranship/rule.Premise
def o59_0 (n : Nat) (k1 : (List Ent) → Int → Int → (List Jd) → Option ((List Ent) × Bool)) (a0 : List Ent) (a1 : Int) (a2 : Int) (a3 : List Jd) : Option ((List Ent) × Bool) :=
  (f105 n a0).bind fun x1 =>
  ifB (!x1) (
    some (([] : List Ent), false)) (
    ifB (decide (a2 < (0 : Int))) (
      some (([] : List Ent), false)) (
      (f106 a1).bind fun x2 =>
      ifB (decide (x2 ≤ a2)) (
        some (([] : List Ent), false)) (
        k1 a0 a1 a2 a3)))
def o59_1 (n : Nat) (k2 : (List Ent) → (List Ent) → Int → Int → Option ((List Ent) × Bool)) (k3 : (List Ent) → Int → (List Jd) → Option ((List Ent) × Bool)) (t0 : List Ent) (t1 : Int) (t2 : Int) (t3 : List Jd) : Option ((List Ent) × Bool) :=
  (f107 t1 t2).bind fun x3 =>
  ifB (!x3) (
    ckB (decide (0 ≤ (0 : Int)) && (decide ((0 : Int) ≤ (t0.length : Int)) && decide ((64 : Nat) * (t0.length : Int) ≤ 281474976710656))) <|
    k2 (List.replicate (0 : Int).toNat (Ent.mk (Tm.mk (0 : Int) (0 : Int) (0 : Int) (0 : Int) ([] : List Tm)) (0 : Int))) t0 (t0.length : Int) (0 : Int)) (
    ifB (decide ((t3.length : Int) = (0 : Int))) (
      some (([] : List Ent), false)) (
      atI t3 (0 : Int) fun x4 =>
      (f108 n x4 (t0.length : Int)).bind fun x5 =>
      ifB (!x5) (
        some (([] : List Ent), false)) (
        k3 t0 t1 t3)))
def o59_2 (n : Nat) (k2 : (List Ent) → (List Ent) → Int → Int → Option ((List Ent) × Bool)) (t10 : List Ent) (t35 : List Ent) (t36 : Int) (t37 : Int) : Option ((List Ent) × Bool) :=
  ifB (decide (t37 < t36)) (
    atI t35 t37 fun x6 =>
    (f102 n x6.a).bind fun x7 =>
    ckB (decide ((t10.length + [(Ent.mk (Tm.mk x7.kind x7.i x7.j x7.n x7.kids) x6.i)].length) * 64 ≤ 140737488355328) && decide (t10.length + [(Ent.mk (Tm.mk x7.kind x7.i x7.j x7.n x7.kids) x6.i)].length ≤ 9223372036854775807)) <|
    ckI (t37 + (1 : Int)) <|
    k2 (t10 ++ [(Ent.mk (Tm.mk x7.kind x7.i x7.j x7.n x7.kids) x6.i)]) t35 t36 (t37 + (1 : Int))) (
    some (t10, true))
def o59_3 (n : Nat) (t0 : List Ent) (t1 : Int) (t3 : List Jd) : Option ((List Ent) × Bool) :=
  atI t3 (0 : Int) fun x8 =>
  (f109 t1 x8).bind fun x9 =>
  ifB (!x9.2) (
    some (([] : List Ent), false)) (
    (f51 n t0 x9.1.a x9.1.i).bind fun x10 =>
    some (x10, true))
def c59_3 (n : Nat) (t0 : List Ent) (t1 : Int) (t3 : List Jd) : Option ((List Ent) × Bool) :=
  o59_3 n t0 t1 t3
def c59_1 (n : Nat) (k2 : (List Ent) → (List Ent) → Int → Int → Option ((List Ent) × Bool)) (t0 : List Ent) (t1 : Int) (t2 : Int) (t3 : List Jd) : Option ((List Ent) × Bool) :=
  o59_1 n k2 (c59_3 n) t0 t1 t2 t3
def l59_2 (n : Nat) : Nat → (List Ent) → (List Ent) → Int → Int → Option ((List Ent) × Bool)
  | 0, _, _, _, _ => none
  | m + 1, t10, t35, t36, t37 => o59_2 n (l59_2 n m) t10 t35 t36 t37
def f59 (n : Nat) (a0 : List Ent) (a1 : Int) (a2 : Int) (a3 : List Jd) : Option ((List Ent) × Bool) := o59_0 n (c59_1 n (l59_2 n n)) a0 a1 a2 a3
def an59 : An := (.n none [] 0 .z (.n (some 1) [(0, .one (.d .ent false)), (1, .one .c), (2, .one .c), (3, .one (.d .jd false))] 0 .z (.n none [] 0 (.n none [] 0 .z (.n none [] 0 (.n none [] 0 .z (.n none [] 0 (.n none [] 0 .z (.n none [] 0 (.n (some 2) [(10, .one (.r 0 45 .ent true)), (35, .one (.d .ent false)), (36, .one .c), (37, .one .c)] 1 .z .z) .z)) .z)) .z)) (.n (some 3) [(0, .one (.d .ent false)), (1, .one .c), (3, .one (.d .jd false))] 0 .z .z))))
def F59 : Fn := { f := 59, a := an59, vars := [.tmp 8, .tmp 9], ps := [.sl .ent, .sc .int, .sc .int, .sl .jd], rs := [.sl .ent, .sc .bool], own := false, fr := true, nt := 80, D := 5, loops := [2] }
def cs59 (n : Nat) : List Cal := [⟨51, [.sl .ent, .st .tm, .sc .int], [.sl .ent], true, fun a => f51 n a.1 a.2.1 a.2.2.1⟩, ⟨102, [.st .tm], [.st .tm], true, fun a => f102 n a.1⟩, ⟨105, [.sl .ent], [.sc .bool], true, fun a => f105 n a.1⟩, ⟨106, [.sc .int], [.sc .int], true, fun a => f106 a.1⟩, ⟨107, [.sc .int, .sc .int], [.sc .bool], true, fun a => f107 a.1 a.2.1⟩, ⟨108, [.st .jd, .sc .int], [.sc .bool], true, fun a => f108 n a.1 a.2.1⟩, ⟨109, [.sc .int, .st .jd], [.st .ent, .sc .bool], false, fun a => f109 a.1 a.2.1⟩]
def st59_1 (t0 : List Ent) (t1 : Int) (t2 : Int) (t3 : List Jd) : SS := ⟨[(0, .v (.one (.c (.sl .ent t0) false))), (1, .v (.one (.c (.int t1) true))), (2, .v (.one (.c (.int t2) true))), (3, .v (.one (.c (.sl .jd t3) false)))], [], 0⟩
def st59_2 (t10 : List Ent) (t35 : List Ent) (t36 : Int) (t37 : Int) : SS := ⟨[(10, .v (.one (.arr 0))), (35, .v (.one (.c (.sl .ent t35) false))), (36, .v (.one (.c (.int t36) true))), (37, .v (.one (.c (.int t37) true)))], [(0, some (.row 45 .ent t10 true))], 1⟩
def st59_3 (t0 : List Ent) (t1 : Int) (t3 : List Jd) : SS := ⟨[(0, .v (.one (.c (.sl .ent t0) false))), (1, .v (.one (.c (.int t1) true))), (3, .v (.one (.c (.sl .jd t3) false)))], [], 0⟩
theorem p59_0 (n : Nat) (lab : Nat → SS → Option (RT.den F59.rs)) (x : PTs.den F59.ps) : F59.body (bodyOf Try.f59) tabR tyR true (cs59 n) lab x = o59_0 n (fun t0 t1 t2 t3 => lab 1 (st59_1 t0 t1 t2 t3)) x.1 x.2.1 x.2.2.1 x.2.2.2.1 := by kernel_rfl
theorem p59_1 (n : Nat) (lab : Nat → SS → Option (RT.den F59.rs)) (t0 : List Ent) (t1 : Int) (t2 : Int) (t3 : List Jd) : F59.at (bodyOf Try.f59) tabR tyR true (cs59 n) lab 1 (st59_1 t0 t1 t2 t3) = o59_1 n (fun t10 t35 t36 t37 => lab 2 (st59_2 t10 t35 t36 t37)) (fun t0 t1 t3 => lab 3 (st59_3 t0 t1 t3)) t0 t1 t2 t3 := by kernel_rfl
theorem p59_2 (n : Nat) (lab : Nat → SS → Option (RT.den F59.rs)) (t10 : List Ent) (t35 : List Ent) (t36 : Int) (t37 : Int) : F59.at (bodyOf Try.f59) tabR tyR true (cs59 n) lab 2 (st59_2 t10 t35 t36 t37) = o59_2 n (fun t10 t35 t36 t37 => lab 2 (st59_2 t10 t35 t36 t37)) t10 t35 t36 t37 := by kernel_rfl
theorem p59_3 (n : Nat) (lab : Nat → SS → Option (RT.den F59.rs)) (t0 : List Ent) (t1 : Int) (t3 : List Jd) : F59.at (bodyOf Try.f59) tabR tyR true (cs59 n) lab 3 (st59_3 t0 t1 t3) = o59_3 n t0 t1 t3 := by kernel_rfl
theorem n59_3 (n : Nat) (rec : Nat → SS → Option (RT.den F59.rs)) (d : Nat) (t0 : List Ent) (t1 : Int) (t3 : List Jd) : F59.labD (bodyOf Try.f59) tabR tyR true (cs59 n) rec (d + 1) 3 (st59_3 t0 t1 t3) = c59_3 n t0 t1 t3 := by
  show F59.labD (bodyOf Try.f59) tabR tyR true (cs59 n) rec (d + 1) 3 _ = _
  rw [Fn.labD_succ, p59_3]
  rfl
theorem n59_1 (n : Nat) (rec : Nat → SS → Option (RT.den F59.rs)) (k2 : (List Ent) → (List Ent) → Int → Int → Option ((List Ent) × Bool)) (h2 : ∀ t10 t35 t36 t37, rec 2 (st59_2 t10 t35 t36 t37) = k2 t10 t35 t36 t37) (d : Nat) (t0 : List Ent) (t1 : Int) (t2 : Int) (t3 : List Jd) : F59.labD (bodyOf Try.f59) tabR tyR true (cs59 n) rec (d + 2) 1 (st59_1 t0 t1 t2 t3) = c59_1 n k2 t0 t1 t2 t3 := by
  have e2 : ∀ t10 t35 t36 t37, F59.labX (bodyOf Try.f59) tabR tyR true (cs59 n) rec (d + 1) 2 (st59_2 t10 t35 t36 t37) = k2 t10 t35 t36 t37 := fun t10 t35 t36 t37 => (Fn.labX_loop _ _ _ _ _ _ _ _ _ _ (by kernel_rfl)).trans (h2 t10 t35 t36 t37)
  have e3 : ∀ t0 t1 t3, F59.labX (bodyOf Try.f59) tabR tyR true (cs59 n) rec (d + 1) 3 (st59_3 t0 t1 t3) = c59_3 n t0 t1 t3 := fun t0 t1 t3 => (Fn.labX_step _ _ _ _ _ _ _ _ _ _ (by kernel_rfl)).trans (n59_3 n rec d t0 t1 t3)
  show F59.labD (bodyOf Try.f59) tabR tyR true (cs59 n) rec ((d + 1) + 1) 1 _ = _
  rw [Fn.labD_succ, p59_1]
  simp only [e2, e3]
  rfl
theorem m59_2 (n : Nat) : ∀ m : Nat, (∀ t10 t35 t36 t37, F59.labM (bodyOf Try.f59) tabR tyR true (cs59 n) m 2 (st59_2 t10 t35 t36 t37) = l59_2 n m t10 t35 t36 t37) := by
  intro m
  induction m with
  | zero => exact fun _ _ _ _ => rfl
  | succ m ih =>
    intro t10 t35 t36 t37
    have e2 : ∀ t10 t35 t36 t37, F59.labX (bodyOf Try.f59) tabR tyR true (cs59 n) (F59.labM (bodyOf Try.f59) tabR tyR true (cs59 n) m) 4 2 (st59_2 t10 t35 t36 t37) = (l59_2 n m) t10 t35 t36 t37 := fun t10 t35 t36 t37 => (Fn.labX_loop _ _ _ _ _ _ _ _ _ _ (by kernel_rfl)).trans (ih t10 t35 t36 t37)
    rw [Fn.labM_succ]
    show F59.labD (bodyOf Try.f59) tabR tyR true (cs59 n) (F59.labM (bodyOf Try.f59) tabR tyR true (cs59 n) m) (4 + 1) 2 _ = _
    rw [Fn.labD_succ, p59_2]
    simp only [e2]
    rfl
theorem w59 (n : Nat) (x : PTs.den F59.ps) : F59.body (bodyOf Try.f59) tabR tyR true (cs59 n) (F59.labX (bodyOf Try.f59) tabR tyR true (cs59 n) (F59.labM (bodyOf Try.f59) tabR tyR true (cs59 n) n) F59.D) x = o59_0 n (c59_1 n (l59_2 n n)) x.1 x.2.1 x.2.2.1 x.2.2.2.1 := by
  have e1 : ∀ t0 t1 t2 t3, F59.labX (bodyOf Try.f59) tabR tyR true (cs59 n) (F59.labM (bodyOf Try.f59) tabR tyR true (cs59 n) n) 5 1 (st59_1 t0 t1 t2 t3) = c59_1 n (l59_2 n n) t0 t1 t2 t3 := fun t0 t1 t2 t3 => (Fn.labX_step _ _ _ _ _ _ _ _ _ _ (by kernel_rfl)).trans (n59_1 n (F59.labM (bodyOf Try.f59) tabR tyR true (cs59 n) n) (l59_2 n n) (m59_2 n n) 3 t0 t1 t2 t3)
  show F59.body (bodyOf Try.f59) tabR tyR true (cs59 n) (F59.labX (bodyOf Try.f59) tabR tyR true (cs59 n) (F59.labM (bodyOf Try.f59) tabR tyR true (cs59 n) n) 5) x = _
  rw [p59_0]
  simp only [e1]
  try rfl
theorem call59 : Callable Try.prog 59 := callable_of Try.func59 (by kernel_rfl) (by kernel_rfl)
theorem ok59 (n : Nat) : Cal.Ok Try.prog ⟨59, F59.ps, F59.rs, F59.fr, fun a => f59 n a.1 a.2.1 a.2.2.1 a.2.2.2.1⟩ :=
  cal_of_fn F59 (code := bodyOf Try.f59) Try.func59 (by kernel_rfl) (by kernel_rfl) call59 htabR (cs := cs59 n) (fun c hc => by
      simp only [cs59, List.mem_cons, List.not_mem_nil, or_false] at hc
      rcases hc with rfl | rfl | rfl | rfl | rfl | rfl | rfl
      · exact ok51 n
      · exact ok102 n
      · exact ok105 n
      · exact ok106
      · exact ok107
      · exact ok108 n
      · exact ok109) (fun _ => mixed) (by kernel_rfl) (by kernel_rfl) (by decide) (fun x => ⟨n, w59 n x⟩)
-- tranship/transhipref11.rightJudg
-- tranship/transhipref11.same
-- tranship/transhipref11.sort
-- tranship/transhipref11.types
-- tranship/transhipref11.Premise
-- tranship/rule.equal
def o156_0 (a0 : Tm) (a1 : Tm) (a2 : Tm) (a3 : Int) : Option Jd :=
  some (Jd.mk true (Tm.mk a0.kind a0.i a0.j a0.n a0.kids) (Tm.mk a1.kind a1.i a1.j a1.n a1.kids) (Tm.mk a2.kind a2.i a2.j a2.n a2.kids) a3)
def f156 (a0 : Tm) (a1 : Tm) (a2 : Tm) (a3 : Int) : Option Jd := o156_0 a0 a1 a2 a3
def an156 : An := .z
def F156 : Fn := { f := 156, a := an156, vars := [.cell 8 49], ps := [.st .tm, .st .tm, .st .tm, .sc .int], rs := [.st .jd], own := false, fr := false, nt := 14, D := 2, loops := [] }
def cs156 : List Cal := []
theorem p156_0 (lab : Nat → SS → Option (RT.den F156.rs)) (x : PTs.den F156.ps) : F156.body (bodyOf Try.f156) tabR tyR true cs156 lab x = o156_0 x.1 x.2.1 x.2.2.1 x.2.2.2.1 := by kernel_rfl
theorem w156 (x : PTs.den F156.ps) : F156.body (bodyOf Try.f156) tabR tyR true cs156 (F156.labX (bodyOf Try.f156) tabR tyR true cs156 (F156.labM (bodyOf Try.f156) tabR tyR true cs156 0) F156.D) x = o156_0 x.1 x.2.1 x.2.2.1 x.2.2.2.1 := by
  show F156.body (bodyOf Try.f156) tabR tyR true cs156 (F156.labX (bodyOf Try.f156) tabR tyR true cs156 (F156.labM (bodyOf Try.f156) tabR tyR true cs156 0) 2) x = _
  rw [p156_0]
theorem call156 : Callable Try.prog 156 := callable_of Try.func156 (by kernel_rfl) (by kernel_rfl)
theorem ok156 : Cal.Ok Try.prog ⟨156, F156.ps, F156.rs, F156.fr, fun a => f156 a.1 a.2.1 a.2.2.1 a.2.2.2.1⟩ :=
  cal_of_fn F156 (code := bodyOf Try.f156) Try.func156 (by kernel_rfl) (by kernel_rfl) call156 htabR (cs := cs156) (fun c hc => by simp only [cs156, List.not_mem_nil] at hc) (fun _ => mixed) (by kernel_rfl) (by kernel_rfl) (by decide) (fun x => ⟨0, w156 x⟩)
-- tranship/rule.has
def o157_0 (n : Nat) (a0 : Jd) (a1 : Bool) (a2 : Tm) (a3 : Int) : Option Bool :=
  ifB (a0.eq == a1) (
    ifB (decide (a0.i = a3)) (
      (f104 n a0.a a2).bind fun x1 =>
      some x1) (
      some false)) (
    some false)
def f157 (n : Nat) (a0 : Jd) (a1 : Bool) (a2 : Tm) (a3 : Int) : Option Bool := o157_0 n a0 a1 a2 a3
def an157 : An := .z
def F157 : Fn := { f := 157, a := an157, vars := [.tmp 8], ps := [.st .jd, .sc .bool, .st .tm, .sc .int], rs := [.sc .bool], own := false, fr := true, nt := 25, D := 2, loops := [] }
def cs157 (n : Nat) : List Cal := [⟨104, [.st .tm, .st .tm], [.sc .bool], true, fun a => f104 n a.1 a.2.1⟩]
theorem p157_0 (n : Nat) (lab : Nat → SS → Option (RT.den F157.rs)) (x : PTs.den F157.ps) : F157.body (bodyOf Try.f157) tabR tyR true (cs157 n) lab x = o157_0 n x.1 x.2.1 x.2.2.1 x.2.2.2.1 := by kernel_rfl
theorem w157 (n : Nat) (x : PTs.den F157.ps) : F157.body (bodyOf Try.f157) tabR tyR true (cs157 n) (F157.labX (bodyOf Try.f157) tabR tyR true (cs157 n) (F157.labM (bodyOf Try.f157) tabR tyR true (cs157 n) 0) F157.D) x = o157_0 n x.1 x.2.1 x.2.2.1 x.2.2.2.1 := by
  show F157.body (bodyOf Try.f157) tabR tyR true (cs157 n) (F157.labX (bodyOf Try.f157) tabR tyR true (cs157 n) (F157.labM (bodyOf Try.f157) tabR tyR true (cs157 n) 0) 2) x = _
  rw [p157_0]
theorem call157 : Callable Try.prog 157 := callable_of Try.func157 (by kernel_rfl) (by kernel_rfl)
theorem ok157 (n : Nat) : Cal.Ok Try.prog ⟨157, F157.ps, F157.rs, F157.fr, fun a => f157 n a.1 a.2.1 a.2.2.1 a.2.2.2.1⟩ :=
  cal_of_fn F157 (code := bodyOf Try.f157) Try.func157 (by kernel_rfl) (by kernel_rfl) call157 htabR (cs := cs157 n) (fun c hc => by
      simp only [cs157, List.mem_cons, List.not_mem_nil, or_false] at hc
      rcases hc with rfl
      · exact ok104 n) (fun _ => mixed) (by kernel_rfl) (by kernel_rfl) (by decide) (fun x => ⟨0, w157 n x⟩)
-- tranship/rule.converts
def o158_0 (n : Nat) (a0 : Jd) (a1 : Jd) : Option Bool :=
  (f139 a1 true).bind fun x1 =>
  ifB x1.2 (
    ifB (decide (x1.1 = a0.i)) (
      (f104 n a0.a a1.u).bind fun x2 =>
      some x2) (
      some false)) (
    some false)
def f158 (n : Nat) (a0 : Jd) (a1 : Jd) : Option Bool := o158_0 n a0 a1
def an158 : An := .z
def F158 : Fn := { f := 158, a := an158, vars := [.tmp 4], ps := [.st .jd, .st .jd], rs := [.sc .bool], own := false, fr := true, nt := 26, D := 2, loops := [] }
def cs158 (n : Nat) : List Cal := [⟨104, [.st .tm, .st .tm], [.sc .bool], true, fun a => f104 n a.1 a.2.1⟩, ⟨139, [.st .jd, .sc .bool], [.sc .int, .sc .bool], true, fun a => f139 a.1 a.2.1⟩]
theorem p158_0 (n : Nat) (lab : Nat → SS → Option (RT.den F158.rs)) (x : PTs.den F158.ps) : F158.body (bodyOf Try.f158) tabR tyR true (cs158 n) lab x = o158_0 n x.1 x.2.1 := by kernel_rfl
theorem w158 (n : Nat) (x : PTs.den F158.ps) : F158.body (bodyOf Try.f158) tabR tyR true (cs158 n) (F158.labX (bodyOf Try.f158) tabR tyR true (cs158 n) (F158.labM (bodyOf Try.f158) tabR tyR true (cs158 n) 0) F158.D) x = o158_0 n x.1 x.2.1 := by
  show F158.body (bodyOf Try.f158) tabR tyR true (cs158 n) (F158.labX (bodyOf Try.f158) tabR tyR true (cs158 n) (F158.labM (bodyOf Try.f158) tabR tyR true (cs158 n) 0) 2) x = _
  rw [p158_0]
theorem call158 : Callable Try.prog 158 := callable_of Try.func158 (by kernel_rfl) (by kernel_rfl)
theorem ok158 (n : Nat) : Cal.Ok Try.prog ⟨158, F158.ps, F158.rs, F158.fr, fun a => f158 n a.1 a.2.1⟩ :=
  cal_of_fn F158 (code := bodyOf Try.f158) Try.func158 (by kernel_rfl) (by kernel_rfl) call158 htabR (cs := cs158 n) (fun c hc => by
      simp only [cs158, List.mem_cons, List.not_mem_nil, or_false] at hc
      rcases hc with rfl | rfl
      · exact ok104 n
      · exact ok139) (fun _ => mixed) (by kernel_rfl) (by kernel_rfl) (by decide) (fun x => ⟨0, w158 n x⟩)
-- (tranship/rule.fam).of
def o161_0 (a0 : Fm) (a1 : Int) (a2 : List Tm) : Option Tm :=
  ckB (decide (([(Tm.mk a0.a.kind a0.a.i a0.a.j a0.a.n a0.a.kids), (Tm.mk a0.b.kind a0.b.i a0.b.j a0.b.n a0.b.kids)].length + a2.length) * 56 ≤ 140737488355328) && decide ([(Tm.mk a0.a.kind a0.a.i a0.a.j a0.a.n a0.a.kids), (Tm.mk a0.b.kind a0.b.i a0.b.j a0.b.n a0.b.kids)].length + a2.length ≤ 9223372036854775807)) <|
  (f127 a1 a0.i a0.j (0 : Int) ([(Tm.mk a0.a.kind a0.a.i a0.a.j a0.a.n a0.a.kids), (Tm.mk a0.b.kind a0.b.i a0.b.j a0.b.n a0.b.kids)] ++ a2)).bind fun x1 =>
  some x1
def f161 (a0 : Fm) (a1 : Int) (a2 : List Tm) : Option Tm := o161_0 a0 a1 a2
def an161 : An := .z
def F161 : Fn := { f := 161, a := an161, vars := [.cell 6 24], ps := [.st .fm, .sc .int, .sl .tm], rs := [.st .tm], own := false, fr := false, nt := 20, D := 2, loops := [] }
def cs161 : List Cal := [⟨127, [.sc .int, .sc .int, .sc .int, .sc .int, .sl .tm], [.st .tm], false, fun a => f127 a.1 a.2.1 a.2.2.1 a.2.2.2.1 a.2.2.2.2.1⟩]
theorem p161_0 (lab : Nat → SS → Option (RT.den F161.rs)) (x : PTs.den F161.ps) : F161.body (bodyOf Try.f161) tabR tyR true cs161 lab x = o161_0 x.1 x.2.1 x.2.2.1 := by kernel_rfl
theorem w161 (x : PTs.den F161.ps) : F161.body (bodyOf Try.f161) tabR tyR true cs161 (F161.labX (bodyOf Try.f161) tabR tyR true cs161 (F161.labM (bodyOf Try.f161) tabR tyR true cs161 0) F161.D) x = o161_0 x.1 x.2.1 x.2.2.1 := by
  show F161.body (bodyOf Try.f161) tabR tyR true cs161 (F161.labX (bodyOf Try.f161) tabR tyR true cs161 (F161.labM (bodyOf Try.f161) tabR tyR true cs161 0) 2) x = _
  rw [p161_0]
theorem call161 : Callable Try.prog 161 := callable_of Try.func161 (by kernel_rfl) (by kernel_rfl)
theorem ok161 : Cal.Ok Try.prog ⟨161, F161.ps, F161.rs, F161.fr, fun a => f161 a.1 a.2.1 a.2.2.1⟩ :=
  cal_of_fn F161 (code := bodyOf Try.f161) Try.func161 (by kernel_rfl) (by kernel_rfl) call161 htabR (cs := cs161) (fun c hc => by
      simp only [cs161, List.mem_cons, List.not_mem_nil, or_false] at hc
      rcases hc with rfl
      · exact ok127) (fun _ => mixed) (by kernel_rfl) (by kernel_rfl) (by decide) (fun x => ⟨0, w161 x⟩)
-- (tranship/rule.fam).m
def o162_0 (a0 : Fm) : Option Int :=
  some (max a0.i a0.j)
def f162 (a0 : Fm) : Option Int := o162_0 a0
def an162 : An := .z
def F162 : Fn := { f := 162, a := an162, vars := [.tmp 2], ps := [.st .fm], rs := [.sc .int], own := false, fr := true, nt := 8, D := 2, loops := [] }
def cs162 : List Cal := []
theorem p162_0 (lab : Nat → SS → Option (RT.den F162.rs)) (x : PTs.den F162.ps) : F162.body (bodyOf Try.f162) tabR tyR true cs162 lab x = o162_0 x.1 := by kernel_rfl
theorem w162 (x : PTs.den F162.ps) : F162.body (bodyOf Try.f162) tabR tyR true cs162 (F162.labX (bodyOf Try.f162) tabR tyR true cs162 (F162.labM (bodyOf Try.f162) tabR tyR true cs162 0) F162.D) x = o162_0 x.1 := by
  show F162.body (bodyOf Try.f162) tabR tyR true cs162 (F162.labX (bodyOf Try.f162) tabR tyR true cs162 (F162.labM (bodyOf Try.f162) tabR tyR true cs162 0) 2) x = _
  rw [p162_0]
theorem call162 : Callable Try.prog 162 := callable_of Try.func162 (by kernel_rfl) (by kernel_rfl)
theorem ok162 : Cal.Ok Try.prog ⟨162, F162.ps, F162.rs, F162.fr, fun a => f162 a.1⟩ :=
  cal_of_fn F162 (code := bodyOf Try.f162) Try.func162 (by kernel_rfl) (by kernel_rfl) call162 htabR (cs := cs162) (fun c hc => by simp only [cs162, List.not_mem_nil] at hc) (fun _ => mixed) (by kernel_rfl) (by kernel_rfl) (by decide) (fun x => ⟨0, w162 x⟩)
-- tranship/rule.made
def o159_0 (n : Nat) (k1 : Int → (List Jd) → Bool → Int → Int → Int → Int → Int → Int → Int → Int → Int → Int → Int → Int → Int → Int → Int → Option (Jd × Bool)) (a0 : Int) (a1 : List Jd) : Option (Jd × Bool) :=
  atI a1 (0 : Int) fun x1 =>
  (f139 x1 true).bind fun x2 =>
  atI a1 (1 : Int) fun x3 =>
  (f139 x3 true).bind fun x4 =>
  ifB (!x2.2) (
    some ((Jd.mk false (Tm.mk (0 : Int) (0 : Int) (0 : Int) (0 : Int) ([] : List Tm)) (Tm.mk (0 : Int) (0 : Int) (0 : Int) (0 : Int) ([] : List Tm)) (Tm.mk (0 : Int) (0 : Int) (0 : Int) (0 : Int) ([] : List Tm)) (0 : Int)), false)) (
    ifB (!x4.2) (
      some ((Jd.mk false (Tm.mk (0 : Int) (0 : Int) (0 : Int) (0 : Int) ([] : List Tm)) (Tm.mk (0 : Int) (0 : Int) (0 : Int) (0 : Int) ([] : List Tm)) (Tm.mk (0 : Int) (0 : Int) (0 : Int) (0 : Int) ([] : List Tm)) (0 : Int)), false)) (
      k1 a0 a1 false (0 : Int) (0 : Int) (0 : Int) (0 : Int) (0 : Int) (0 : Int) (0 : Int) (0 : Int) (0 : Int) (0 : Int) (0 : Int) (0 : Int) (0 : Int) x2.1 x4.1))
def o159_1 (n : Nat) (k2 : Bool → Int → Int → Int → Int → Int → Int → Int → Int → Int → Int → Int → Int → Int → Int → Int → Int → Int → Int → Int → (List Tm) → Int → Int → Int → Int → (List Tm) → Int → Int → Int → Int → Int → Int → (List Tm) → Int → Int → Int → Int → (List Tm) → Jd → Jd → Option (Jd × Bool)) (t0 : Int) (t1 : List Jd) (t4_0 : Bool) (t4_1 : Int) (t4_2 : Int) (t4_3 : Int) (t4_4 : Int) (t4_6 : Int) (t4_7 : Int) (t4_8 : Int) (t4_9 : Int) (t4_11 : Int) (t4_12 : Int) (t4_13 : Int) (t4_14 : Int) (t4_16 : Int) (t6 : Int) (t8 : Int) : Option (Jd × Bool) :=
  atI t1 (0 : Int) fun x5 =>
  atI t1 (1 : Int) fun x6 =>
  atI t1 (0 : Int) fun x7 =>
  atI t1 (1 : Int) fun x8 =>
  ifB (decide (t0 = (25 : Int))) (
    (f161 (Fm.mk t6 t8 (Tm.mk x5.u.kind x5.u.i x5.u.j x5.u.n x5.u.kids) (Tm.mk x6.u.kind x6.u.i x6.u.j x6.u.n x6.u.kids)) (3 : Int) ([] : List Tm)).bind fun x9 =>
    (f161 (Fm.mk t6 t8 (Tm.mk x7.v.kind x7.v.i x7.v.j x7.v.n x7.v.kids) (Tm.mk x8.v.kind x8.v.i x8.v.j x8.v.n x8.v.kids)) (3 : Int) ([] : List Tm)).bind fun x10 =>
    (f162 (Fm.mk t6 t8 (Tm.mk x5.u.kind x5.u.i x5.u.j x5.u.n x5.u.kids) (Tm.mk x6.u.kind x6.u.i x6.u.j x6.u.n x6.u.kids))).bind fun x11 =>
    (f142 x11).bind fun x12 =>
    (f162 (Fm.mk t6 t8 (Tm.mk x5.u.kind x5.u.i x5.u.j x5.u.n x5.u.kids) (Tm.mk x6.u.kind x6.u.i x6.u.j x6.u.n x6.u.kids))).bind fun x13 =>
    ckI (x13 + (1 : Int)) <|
    (f156 x9 x10 x12 (x13 + (1 : Int))).bind fun x14 =>
    some (x14, true)) (
    ifB (decide (t0 = (26 : Int))) (
      (f161 (Fm.mk t6 t8 (Tm.mk x5.u.kind x5.u.i x5.u.j x5.u.n x5.u.kids) (Tm.mk x6.u.kind x6.u.i x6.u.j x6.u.n x6.u.kids)) (6 : Int) ([] : List Tm)).bind fun x15 =>
      (f161 (Fm.mk t6 t8 (Tm.mk x7.v.kind x7.v.i x7.v.j x7.v.n x7.v.kids) (Tm.mk x8.v.kind x8.v.i x8.v.j x8.v.n x8.v.kids)) (6 : Int) ([] : List Tm)).bind fun x16 =>
      (f162 (Fm.mk t6 t8 (Tm.mk x5.u.kind x5.u.i x5.u.j x5.u.n x5.u.kids) (Tm.mk x6.u.kind x6.u.i x6.u.j x6.u.n x6.u.kids))).bind fun x17 =>
      (f142 x17).bind fun x18 =>
      (f162 (Fm.mk t6 t8 (Tm.mk x5.u.kind x5.u.i x5.u.j x5.u.n x5.u.kids) (Tm.mk x6.u.kind x6.u.i x6.u.j x6.u.n x6.u.kids))).bind fun x19 =>
      ckI (x19 + (1 : Int)) <|
      (f156 x15 x16 x18 (x19 + (1 : Int))).bind fun x20 =>
      some (x20, true)) (
      ifB (decide (t0 = (27 : Int))) (
        atI t1 (2 : Int) fun x21 =>
        (f161 (Fm.mk t6 t8 (Tm.mk x5.u.kind x5.u.i x5.u.j x5.u.n x5.u.kids) (Tm.mk x6.u.kind x6.u.i x6.u.j x6.u.n x6.u.kids)) (4 : Int) [(Tm.mk x21.u.kind x21.u.i x21.u.j x21.u.n x21.u.kids)]).bind fun x22 =>
        (f161 (Fm.mk t6 t8 (Tm.mk x7.v.kind x7.v.i x7.v.j x7.v.n x7.v.kids) (Tm.mk x8.v.kind x8.v.i x8.v.j x8.v.n x8.v.kids)) (4 : Int) [(Tm.mk x21.v.kind x21.v.i x21.v.j x21.v.n x21.v.kids)]).bind fun x23 =>
        (f161 (Fm.mk t6 t8 (Tm.mk x5.u.kind x5.u.i x5.u.j x5.u.n x5.u.kids) (Tm.mk x6.u.kind x6.u.i x6.u.j x6.u.n x6.u.kids)) (3 : Int) ([] : List Tm)).bind fun x24 =>
        (f162 (Fm.mk t6 t8 (Tm.mk x5.u.kind x5.u.i x5.u.j x5.u.n x5.u.kids) (Tm.mk x6.u.kind x6.u.i x6.u.j x6.u.n x6.u.kids))).bind fun x25 =>
        (f156 x22 x23 x24 x25).bind fun x26 =>
        (f157 n x21 true (Tm.mk x6.u.kind x6.u.i x6.u.j x6.u.n x6.u.kids) t8).bind fun x27 =>
        some (x26, x27)) (
        atI t1 (2 : Int) fun x28 =>
        atI t1 (3 : Int) fun x29 =>
        (f157 n x28 false (Tm.mk x5.u.kind x5.u.i x5.u.j x5.u.n x5.u.kids) t6).bind fun x30 =>
        ifB (!x30) (
          some ((Jd.mk false (Tm.mk (0 : Int) (0 : Int) (0 : Int) (0 : Int) ([] : List Tm)) (Tm.mk (0 : Int) (0 : Int) (0 : Int) (0 : Int) ([] : List Tm)) (Tm.mk (0 : Int) (0 : Int) (0 : Int) (0 : Int) ([] : List Tm)) (0 : Int)), false)) (
          (f36 n (Tm.mk x6.u.kind x6.u.i x6.u.j x6.u.n x6.u.kids) x28.u).bind fun x31 =>
          (f157 n x29 false x31 t8).bind fun x32 =>
          ifB (!x32) (
            some ((Jd.mk false (Tm.mk (0 : Int) (0 : Int) (0 : Int) (0 : Int) ([] : List Tm)) (Tm.mk (0 : Int) (0 : Int) (0 : Int) (0 : Int) ([] : List Tm)) (Tm.mk (0 : Int) (0 : Int) (0 : Int) (0 : Int) ([] : List Tm)) (0 : Int)), false)) (
            k2 t4_0 t4_1 t4_2 t4_3 t4_4 t4_6 t4_7 t4_8 t4_9 t4_11 t4_12 t4_13 t4_14 t4_16 t6 t8 x5.u.kind x5.u.i x5.u.j x5.u.n x5.u.kids x6.u.kind x6.u.i x6.u.j x6.u.n x6.u.kids t6 t8 x7.v.kind x7.v.i x7.v.j x7.v.n x7.v.kids x8.v.kind x8.v.i x8.v.j x8.v.n x8.v.kids x28 x29)))))
def o159_2 (n : Nat) (t4_0 : Bool) (t4_1 : Int) (t4_2 : Int) (t4_3 : Int) (t4_4 : Int) (t4_6 : Int) (t4_7 : Int) (t4_8 : Int) (t4_9 : Int) (t4_11 : Int) (t4_12 : Int) (t4_13 : Int) (t4_14 : Int) (t4_16 : Int) (t10_0 : Int) (t10_1 : Int) (t10_2 : Int) (t10_3 : Int) (t10_4 : Int) (t10_5 : Int) (t10_6 : List Tm) (t10_7 : Int) (t10_8 : Int) (t10_9 : Int) (t10_10 : Int) (t10_11 : List Tm) (t11_0 : Int) (t11_1 : Int) (t11_2 : Int) (t11_3 : Int) (t11_4 : Int) (t11_5 : Int) (t11_6 : List Tm) (t11_7 : Int) (t11_8 : Int) (t11_9 : Int) (t11_10 : Int) (t11_11 : List Tm) (t13 : Jd) (t14 : Jd) : Option (Jd × Bool) :=
  (f161 (Fm.mk t10_0 t10_1 (Tm.mk t10_2 t10_3 t10_4 t10_5 t10_6) (Tm.mk t10_7 t10_8 t10_9 t10_10 t10_11)) (7 : Int) [(Tm.mk t13.u.kind t13.u.i t13.u.j t13.u.n t13.u.kids), (Tm.mk t14.u.kind t14.u.i t14.u.j t14.u.n t14.u.kids)]).bind fun x33 =>
  (f161 (Fm.mk t11_0 t11_1 (Tm.mk t11_2 t11_3 t11_4 t11_5 t11_6) (Tm.mk t11_7 t11_8 t11_9 t11_10 t11_11)) (7 : Int) [(Tm.mk t13.u.kind t13.u.i t13.u.j t13.u.n t13.u.kids), (Tm.mk t14.u.kind t14.u.i t14.u.j t14.u.n t14.u.kids)]).bind fun x34 =>
  (f161 (Fm.mk t10_0 t10_1 (Tm.mk t10_2 t10_3 t10_4 t10_5 t10_6) (Tm.mk t10_7 t10_8 t10_9 t10_10 t10_11)) (6 : Int) ([] : List Tm)).bind fun x35 =>
  (f162 (Fm.mk t10_0 t10_1 (Tm.mk t10_2 t10_3 t10_4 t10_5 t10_6) (Tm.mk t10_7 t10_8 t10_9 t10_10 t10_11))).bind fun x36 =>
  (f156 x33 x34 x35 x36).bind fun x37 =>
  some (x37, true)
def c159_2 (n : Nat) (t4_0 : Bool) (t4_1 : Int) (t4_2 : Int) (t4_3 : Int) (t4_4 : Int) (t4_6 : Int) (t4_7 : Int) (t4_8 : Int) (t4_9 : Int) (t4_11 : Int) (t4_12 : Int) (t4_13 : Int) (t4_14 : Int) (t4_16 : Int) (t10_0 : Int) (t10_1 : Int) (t10_2 : Int) (t10_3 : Int) (t10_4 : Int) (t10_5 : Int) (t10_6 : List Tm) (t10_7 : Int) (t10_8 : Int) (t10_9 : Int) (t10_10 : Int) (t10_11 : List Tm) (t11_0 : Int) (t11_1 : Int) (t11_2 : Int) (t11_3 : Int) (t11_4 : Int) (t11_5 : Int) (t11_6 : List Tm) (t11_7 : Int) (t11_8 : Int) (t11_9 : Int) (t11_10 : Int) (t11_11 : List Tm) (t13 : Jd) (t14 : Jd) : Option (Jd × Bool) :=
  o159_2 n t4_0 t4_1 t4_2 t4_3 t4_4 t4_6 t4_7 t4_8 t4_9 t4_11 t4_12 t4_13 t4_14 t4_16 t10_0 t10_1 t10_2 t10_3 t10_4 t10_5 t10_6 t10_7 t10_8 t10_9 t10_10 t10_11 t11_0 t11_1 t11_2 t11_3 t11_4 t11_5 t11_6 t11_7 t11_8 t11_9 t11_10 t11_11 t13 t14
def c159_1 (n : Nat) (t0 : Int) (t1 : List Jd) (t4_0 : Bool) (t4_1 : Int) (t4_2 : Int) (t4_3 : Int) (t4_4 : Int) (t4_6 : Int) (t4_7 : Int) (t4_8 : Int) (t4_9 : Int) (t4_11 : Int) (t4_12 : Int) (t4_13 : Int) (t4_14 : Int) (t4_16 : Int) (t6 : Int) (t8 : Int) : Option (Jd × Bool) :=
  o159_1 n (c159_2 n) t0 t1 t4_0 t4_1 t4_2 t4_3 t4_4 t4_6 t4_7 t4_8 t4_9 t4_11 t4_12 t4_13 t4_14 t4_16 t6 t8
def f159 (n : Nat) (a0 : Int) (a1 : List Jd) : Option (Jd × Bool) := o159_0 n (c159_1 n) a0 a1
def an159 : An := (.n none [] 0 .z (.n none [] 0 .z (.n none [] 0 .z (.n (some 1) [(0, .one .c), (1, .one (.d .jd false)), (4, .p 0 [.c, .c, .c, .c, .c, .k, .c, .c, .c, .c, .k, .c, .c, .c, .c, .k, .c]), (6, .one .c), (8, .one .c)] 1 .z (.n none [] 0 .z (.n none [] 0 .z (.n none [] 0 .z (.n (some 2) [(4, .p 0 [.c, .c, .c, .c, .c, .k, .c, .c, .c, .c, .k, .c, .c, .c, .c, .k, .c]), (10, .p 1 [.c, .c, .c, .c, .c, .c, .d .tm false, .c, .c, .c, .c, .d .tm false]), (11, .p 2 [.c, .c, .c, .c, .c, .c, .d .tm false, .c, .c, .c, .c, .d .tm false]), (13, .ps 3 .jd false), (14, .ps 4 .jd false)] 5 .z .z))))))))
def F159 : Fn := { f := 159, a := an159, vars := [.cell 4 49, .tmp 5], ps := [.sc .int, .sl .jd], rs := [.st .jd, .sc .bool], own := false, fr := false, nt := 153, D := 4, loops := [] }
def cs159 (n : Nat) : List Cal := [⟨36, [.st .tm, .st .tm], [.st .tm], true, fun a => f36 n a.1 a.2.1⟩, ⟨139, [.st .jd, .sc .bool], [.sc .int, .sc .bool], true, fun a => f139 a.1 a.2.1⟩, ⟨142, [.sc .int], [.st .tm], true, fun a => f142 a.1⟩, ⟨156, [.st .tm, .st .tm, .st .tm, .sc .int], [.st .jd], false, fun a => f156 a.1 a.2.1 a.2.2.1 a.2.2.2.1⟩, ⟨157, [.st .jd, .sc .bool, .st .tm, .sc .int], [.sc .bool], true, fun a => f157 n a.1 a.2.1 a.2.2.1 a.2.2.2.1⟩, ⟨161, [.st .fm, .sc .int, .sl .tm], [.st .tm], false, fun a => f161 a.1 a.2.1 a.2.2.1⟩, ⟨162, [.st .fm], [.sc .int], true, fun a => f162 a.1⟩]
def st159_1 (t0 : Int) (t1 : List Jd) (t4_0 : Bool) (t4_1 : Int) (t4_2 : Int) (t4_3 : Int) (t4_4 : Int) (t4_6 : Int) (t4_7 : Int) (t4_8 : Int) (t4_9 : Int) (t4_11 : Int) (t4_12 : Int) (t4_13 : Int) (t4_14 : Int) (t4_16 : Int) (t6 : Int) (t8 : Int) : SS := ⟨[(0, .v (.one (.c (.int t0) true))), (1, .v (.one (.c (.sl .jd t1) false))), (4, .v (.one (.ptr 0 0))), (6, .v (.one (.c (.int t6) true))), (8, .v (.one (.c (.int t8) true)))], [(0, some (.box [.c (.bool t4_0) true, .c (.int t4_1) true, .c (.int t4_2) true, .c (.int t4_3) true, .c (.int t4_4) true, .nils, .c (.int t4_6) true, .c (.int t4_7) true, .c (.int t4_8) true, .c (.int t4_9) true, .nils, .c (.int t4_11) true, .c (.int t4_12) true, .c (.int t4_13) true, .c (.int t4_14) true, .nils, .c (.int t4_16) true]))], 1⟩
def st159_2 (t4_0 : Bool) (t4_1 : Int) (t4_2 : Int) (t4_3 : Int) (t4_4 : Int) (t4_6 : Int) (t4_7 : Int) (t4_8 : Int) (t4_9 : Int) (t4_11 : Int) (t4_12 : Int) (t4_13 : Int) (t4_14 : Int) (t4_16 : Int) (t10_0 : Int) (t10_1 : Int) (t10_2 : Int) (t10_3 : Int) (t10_4 : Int) (t10_5 : Int) (t10_6 : List Tm) (t10_7 : Int) (t10_8 : Int) (t10_9 : Int) (t10_10 : Int) (t10_11 : List Tm) (t11_0 : Int) (t11_1 : Int) (t11_2 : Int) (t11_3 : Int) (t11_4 : Int) (t11_5 : Int) (t11_6 : List Tm) (t11_7 : Int) (t11_8 : Int) (t11_9 : Int) (t11_10 : Int) (t11_11 : List Tm) (t13 : Jd) (t14 : Jd) : SS := ⟨[(4, .v (.one (.ptr 0 0))), (10, .v (.one (.ptr 1 0))), (11, .v (.one (.ptr 2 0))), (13, .v (.one (.ptr 3 0))), (14, .v (.one (.ptr 4 0)))], [(0, some (.box [.c (.bool t4_0) true, .c (.int t4_1) true, .c (.int t4_2) true, .c (.int t4_3) true, .c (.int t4_4) true, .nils, .c (.int t4_6) true, .c (.int t4_7) true, .c (.int t4_8) true, .c (.int t4_9) true, .nils, .c (.int t4_11) true, .c (.int t4_12) true, .c (.int t4_13) true, .c (.int t4_14) true, .nils, .c (.int t4_16) true])), (1, some (.box [.c (.int t10_0) true, .c (.int t10_1) true, .c (.int t10_2) true, .c (.int t10_3) true, .c (.int t10_4) true, .c (.int t10_5) true, .c (.sl .tm t10_6) false, .c (.int t10_7) true, .c (.int t10_8) true, .c (.int t10_9) true, .c (.int t10_10) true, .c (.sl .tm t10_11) false])), (2, some (.box [.c (.int t11_0) true, .c (.int t11_1) true, .c (.int t11_2) true, .c (.int t11_3) true, .c (.int t11_4) true, .c (.int t11_5) true, .c (.sl .tm t11_6) false, .c (.int t11_7) true, .c (.int t11_8) true, .c (.int t11_9) true, .c (.int t11_10) true, .c (.sl .tm t11_11) false])), (3, some (.bst .jd t13 false)), (4, some (.bst .jd t14 false))], 5⟩
theorem p159_0 (n : Nat) (lab : Nat → SS → Option (RT.den F159.rs)) (x : PTs.den F159.ps) : F159.body (bodyOf Try.f159) tabR tyR true (cs159 n) lab x = o159_0 n (fun t0 t1 t4_0 t4_1 t4_2 t4_3 t4_4 t4_6 t4_7 t4_8 t4_9 t4_11 t4_12 t4_13 t4_14 t4_16 t6 t8 => lab 1 (st159_1 t0 t1 t4_0 t4_1 t4_2 t4_3 t4_4 t4_6 t4_7 t4_8 t4_9 t4_11 t4_12 t4_13 t4_14 t4_16 t6 t8)) x.1 x.2.1 := by kernel_rfl
theorem p159_1 (n : Nat) (lab : Nat → SS → Option (RT.den F159.rs)) (t0 : Int) (t1 : List Jd) (t4_0 : Bool) (t4_1 : Int) (t4_2 : Int) (t4_3 : Int) (t4_4 : Int) (t4_6 : Int) (t4_7 : Int) (t4_8 : Int) (t4_9 : Int) (t4_11 : Int) (t4_12 : Int) (t4_13 : Int) (t4_14 : Int) (t4_16 : Int) (t6 : Int) (t8 : Int) : F159.at (bodyOf Try.f159) tabR tyR true (cs159 n) lab 1 (st159_1 t0 t1 t4_0 t4_1 t4_2 t4_3 t4_4 t4_6 t4_7 t4_8 t4_9 t4_11 t4_12 t4_13 t4_14 t4_16 t6 t8) = o159_1 n (fun t4_0 t4_1 t4_2 t4_3 t4_4 t4_6 t4_7 t4_8 t4_9 t4_11 t4_12 t4_13 t4_14 t4_16 t10_0 t10_1 t10_2 t10_3 t10_4 t10_5 t10_6 t10_7 t10_8 t10_9 t10_10 t10_11 t11_0 t11_1 t11_2 t11_3 t11_4 t11_5 t11_6 t11_7 t11_8 t11_9 t11_10 t11_11 t13 t14 => lab 2 (st159_2 t4_0 t4_1 t4_2 t4_3 t4_4 t4_6 t4_7 t4_8 t4_9 t4_11 t4_12 t4_13 t4_14 t4_16 t10_0 t10_1 t10_2 t10_3 t10_4 t10_5 t10_6 t10_7 t10_8 t10_9 t10_10 t10_11 t11_0 t11_1 t11_2 t11_3 t11_4 t11_5 t11_6 t11_7 t11_8 t11_9 t11_10 t11_11 t13 t14)) t0 t1 t4_0 t4_1 t4_2 t4_3 t4_4 t4_6 t4_7 t4_8 t4_9 t4_11 t4_12 t4_13 t4_14 t4_16 t6 t8 := by kernel_rfl
theorem p159_2 (n : Nat) (lab : Nat → SS → Option (RT.den F159.rs)) (t4_0 : Bool) (t4_1 : Int) (t4_2 : Int) (t4_3 : Int) (t4_4 : Int) (t4_6 : Int) (t4_7 : Int) (t4_8 : Int) (t4_9 : Int) (t4_11 : Int) (t4_12 : Int) (t4_13 : Int) (t4_14 : Int) (t4_16 : Int) (t10_0 : Int) (t10_1 : Int) (t10_2 : Int) (t10_3 : Int) (t10_4 : Int) (t10_5 : Int) (t10_6 : List Tm) (t10_7 : Int) (t10_8 : Int) (t10_9 : Int) (t10_10 : Int) (t10_11 : List Tm) (t11_0 : Int) (t11_1 : Int) (t11_2 : Int) (t11_3 : Int) (t11_4 : Int) (t11_5 : Int) (t11_6 : List Tm) (t11_7 : Int) (t11_8 : Int) (t11_9 : Int) (t11_10 : Int) (t11_11 : List Tm) (t13 : Jd) (t14 : Jd) : F159.at (bodyOf Try.f159) tabR tyR true (cs159 n) lab 2 (st159_2 t4_0 t4_1 t4_2 t4_3 t4_4 t4_6 t4_7 t4_8 t4_9 t4_11 t4_12 t4_13 t4_14 t4_16 t10_0 t10_1 t10_2 t10_3 t10_4 t10_5 t10_6 t10_7 t10_8 t10_9 t10_10 t10_11 t11_0 t11_1 t11_2 t11_3 t11_4 t11_5 t11_6 t11_7 t11_8 t11_9 t11_10 t11_11 t13 t14) = o159_2 n t4_0 t4_1 t4_2 t4_3 t4_4 t4_6 t4_7 t4_8 t4_9 t4_11 t4_12 t4_13 t4_14 t4_16 t10_0 t10_1 t10_2 t10_3 t10_4 t10_5 t10_6 t10_7 t10_8 t10_9 t10_10 t10_11 t11_0 t11_1 t11_2 t11_3 t11_4 t11_5 t11_6 t11_7 t11_8 t11_9 t11_10 t11_11 t13 t14 := by kernel_rfl
theorem n159_2 (n : Nat) (rec : Nat → SS → Option (RT.den F159.rs)) (d : Nat) (t4_0 : Bool) (t4_1 : Int) (t4_2 : Int) (t4_3 : Int) (t4_4 : Int) (t4_6 : Int) (t4_7 : Int) (t4_8 : Int) (t4_9 : Int) (t4_11 : Int) (t4_12 : Int) (t4_13 : Int) (t4_14 : Int) (t4_16 : Int) (t10_0 : Int) (t10_1 : Int) (t10_2 : Int) (t10_3 : Int) (t10_4 : Int) (t10_5 : Int) (t10_6 : List Tm) (t10_7 : Int) (t10_8 : Int) (t10_9 : Int) (t10_10 : Int) (t10_11 : List Tm) (t11_0 : Int) (t11_1 : Int) (t11_2 : Int) (t11_3 : Int) (t11_4 : Int) (t11_5 : Int) (t11_6 : List Tm) (t11_7 : Int) (t11_8 : Int) (t11_9 : Int) (t11_10 : Int) (t11_11 : List Tm) (t13 : Jd) (t14 : Jd) : F159.labD (bodyOf Try.f159) tabR tyR true (cs159 n) rec (d + 1) 2 (st159_2 t4_0 t4_1 t4_2 t4_3 t4_4 t4_6 t4_7 t4_8 t4_9 t4_11 t4_12 t4_13 t4_14 t4_16 t10_0 t10_1 t10_2 t10_3 t10_4 t10_5 t10_6 t10_7 t10_8 t10_9 t10_10 t10_11 t11_0 t11_1 t11_2 t11_3 t11_4 t11_5 t11_6 t11_7 t11_8 t11_9 t11_10 t11_11 t13 t14) = c159_2 n t4_0 t4_1 t4_2 t4_3 t4_4 t4_6 t4_7 t4_8 t4_9 t4_11 t4_12 t4_13 t4_14 t4_16 t10_0 t10_1 t10_2 t10_3 t10_4 t10_5 t10_6 t10_7 t10_8 t10_9 t10_10 t10_11 t11_0 t11_1 t11_2 t11_3 t11_4 t11_5 t11_6 t11_7 t11_8 t11_9 t11_10 t11_11 t13 t14 := by
  show F159.labD (bodyOf Try.f159) tabR tyR true (cs159 n) rec (d + 1) 2 _ = _
  rw [Fn.labD_succ, p159_2]
  rfl
theorem n159_1 (n : Nat) (rec : Nat → SS → Option (RT.den F159.rs)) (d : Nat) (t0 : Int) (t1 : List Jd) (t4_0 : Bool) (t4_1 : Int) (t4_2 : Int) (t4_3 : Int) (t4_4 : Int) (t4_6 : Int) (t4_7 : Int) (t4_8 : Int) (t4_9 : Int) (t4_11 : Int) (t4_12 : Int) (t4_13 : Int) (t4_14 : Int) (t4_16 : Int) (t6 : Int) (t8 : Int) : F159.labD (bodyOf Try.f159) tabR tyR true (cs159 n) rec (d + 2) 1 (st159_1 t0 t1 t4_0 t4_1 t4_2 t4_3 t4_4 t4_6 t4_7 t4_8 t4_9 t4_11 t4_12 t4_13 t4_14 t4_16 t6 t8) = c159_1 n t0 t1 t4_0 t4_1 t4_2 t4_3 t4_4 t4_6 t4_7 t4_8 t4_9 t4_11 t4_12 t4_13 t4_14 t4_16 t6 t8 := by
  have e2 : ∀ t4_0 t4_1 t4_2 t4_3 t4_4 t4_6 t4_7 t4_8 t4_9 t4_11 t4_12 t4_13 t4_14 t4_16 t10_0 t10_1 t10_2 t10_3 t10_4 t10_5 t10_6 t10_7 t10_8 t10_9 t10_10 t10_11 t11_0 t11_1 t11_2 t11_3 t11_4 t11_5 t11_6 t11_7 t11_8 t11_9 t11_10 t11_11 t13 t14, F159.labX (bodyOf Try.f159) tabR tyR true (cs159 n) rec (d + 1) 2 (st159_2 t4_0 t4_1 t4_2 t4_3 t4_4 t4_6 t4_7 t4_8 t4_9 t4_11 t4_12 t4_13 t4_14 t4_16 t10_0 t10_1 t10_2 t10_3 t10_4 t10_5 t10_6 t10_7 t10_8 t10_9 t10_10 t10_11 t11_0 t11_1 t11_2 t11_3 t11_4 t11_5 t11_6 t11_7 t11_8 t11_9 t11_10 t11_11 t13 t14) = c159_2 n t4_0 t4_1 t4_2 t4_3 t4_4 t4_6 t4_7 t4_8 t4_9 t4_11 t4_12 t4_13 t4_14 t4_16 t10_0 t10_1 t10_2 t10_3 t10_4 t10_5 t10_6 t10_7 t10_8 t10_9 t10_10 t10_11 t11_0 t11_1 t11_2 t11_3 t11_4 t11_5 t11_6 t11_7 t11_8 t11_9 t11_10 t11_11 t13 t14 := fun t4_0 t4_1 t4_2 t4_3 t4_4 t4_6 t4_7 t4_8 t4_9 t4_11 t4_12 t4_13 t4_14 t4_16 t10_0 t10_1 t10_2 t10_3 t10_4 t10_5 t10_6 t10_7 t10_8 t10_9 t10_10 t10_11 t11_0 t11_1 t11_2 t11_3 t11_4 t11_5 t11_6 t11_7 t11_8 t11_9 t11_10 t11_11 t13 t14 => (Fn.labX_step _ _ _ _ _ _ _ _ _ _ (by kernel_rfl)).trans (n159_2 n rec d t4_0 t4_1 t4_2 t4_3 t4_4 t4_6 t4_7 t4_8 t4_9 t4_11 t4_12 t4_13 t4_14 t4_16 t10_0 t10_1 t10_2 t10_3 t10_4 t10_5 t10_6 t10_7 t10_8 t10_9 t10_10 t10_11 t11_0 t11_1 t11_2 t11_3 t11_4 t11_5 t11_6 t11_7 t11_8 t11_9 t11_10 t11_11 t13 t14)
  show F159.labD (bodyOf Try.f159) tabR tyR true (cs159 n) rec ((d + 1) + 1) 1 _ = _
  rw [Fn.labD_succ, p159_1]
  simp only [e2]
  rfl
theorem w159 (n : Nat) (x : PTs.den F159.ps) : F159.body (bodyOf Try.f159) tabR tyR true (cs159 n) (F159.labX (bodyOf Try.f159) tabR tyR true (cs159 n) (F159.labM (bodyOf Try.f159) tabR tyR true (cs159 n) 0) F159.D) x = o159_0 n (c159_1 n) x.1 x.2.1 := by
  have e1 : ∀ t0 t1 t4_0 t4_1 t4_2 t4_3 t4_4 t4_6 t4_7 t4_8 t4_9 t4_11 t4_12 t4_13 t4_14 t4_16 t6 t8, F159.labX (bodyOf Try.f159) tabR tyR true (cs159 n) (F159.labM (bodyOf Try.f159) tabR tyR true (cs159 n) 0) 4 1 (st159_1 t0 t1 t4_0 t4_1 t4_2 t4_3 t4_4 t4_6 t4_7 t4_8 t4_9 t4_11 t4_12 t4_13 t4_14 t4_16 t6 t8) = c159_1 n t0 t1 t4_0 t4_1 t4_2 t4_3 t4_4 t4_6 t4_7 t4_8 t4_9 t4_11 t4_12 t4_13 t4_14 t4_16 t6 t8 := fun t0 t1 t4_0 t4_1 t4_2 t4_3 t4_4 t4_6 t4_7 t4_8 t4_9 t4_11 t4_12 t4_13 t4_14 t4_16 t6 t8 => (Fn.labX_step _ _ _ _ _ _ _ _ _ _ (by kernel_rfl)).trans (n159_1 n (F159.labM (bodyOf Try.f159) tabR tyR true (cs159 n) 0) 2 t0 t1 t4_0 t4_1 t4_2 t4_3 t4_4 t4_6 t4_7 t4_8 t4_9 t4_11 t4_12 t4_13 t4_14 t4_16 t6 t8)
  show F159.body (bodyOf Try.f159) tabR tyR true (cs159 n) (F159.labX (bodyOf Try.f159) tabR tyR true (cs159 n) (F159.labM (bodyOf Try.f159) tabR tyR true (cs159 n) 0) 4) x = _
  rw [p159_0]
  simp only [e1]
  try rfl
theorem call159 : Callable Try.prog 159 := callable_of Try.func159 (by kernel_rfl) (by kernel_rfl)
theorem ok159 (n : Nat) : Cal.Ok Try.prog ⟨159, F159.ps, F159.rs, F159.fr, fun a => f159 n a.1 a.2.1⟩ :=
  cal_of_fn F159 (code := bodyOf Try.f159) Try.func159 (by kernel_rfl) (by kernel_rfl) call159 htabR (cs := cs159 n) (fun c hc => by
      simp only [cs159, List.mem_cons, List.not_mem_nil, or_false] at hc
      rcases hc with rfl | rfl | rfl | rfl | rfl | rfl | rfl
      · exact ok36 n
      · exact ok139
      · exact ok142
      · exact ok156
      · exact ok157 n
      · exact ok161
      · exact ok162) (fun _ => mixed) (by kernel_rfl) (by kernel_rfl) (by decide) (fun x => ⟨0, w159 n x⟩)
-- tranship/rule.family
def o163_0 (k1 : Jd → Int → Int → Int → Int → Int → Int → Int → Int → Int → Int → Tm → Option (Fm × Bool)) (a0 : Jd) (a1 : Int) : Option (Fm × Bool) :=
  ifB a0.eq (
    some ((Fm.mk (0 : Int) (0 : Int) (Tm.mk (0 : Int) (0 : Int) (0 : Int) (0 : Int) ([] : List Tm)) (Tm.mk (0 : Int) (0 : Int) (0 : Int) (0 : Int) ([] : List Tm))), false)) (
    ifB (!decide (a0.a.kind = a1)) (
      some ((Fm.mk (0 : Int) (0 : Int) (Tm.mk (0 : Int) (0 : Int) (0 : Int) (0 : Int) ([] : List Tm)) (Tm.mk (0 : Int) (0 : Int) (0 : Int) (0 : Int) ([] : List Tm))), false)) (
      k1 a0 (0 : Int) (0 : Int) (0 : Int) (0 : Int) (0 : Int) (0 : Int) (0 : Int) (0 : Int) (0 : Int) (0 : Int) a0.a))
def o163_1 (t2 : Jd) (t4_0 : Int) (t4_1 : Int) (t4_2 : Int) (t4_3 : Int) (t4_4 : Int) (t4_5 : Int) (t4_7 : Int) (t4_8 : Int) (t4_9 : Int) (t4_10 : Int) (t6 : Tm) : Option (Fm × Bool) :=
  atI t6.kids (0 : Int) fun x1 =>
  atI t6.kids (1 : Int) fun x2 =>
  (f162 (Fm.mk t6.i t6.j (Tm.mk x1.kind x1.i x1.j x1.n x1.kids) (Tm.mk x2.kind x2.i x2.j x2.n x2.kids))).bind fun x3 =>
  some ((Fm.mk t6.i t6.j (Tm.mk x1.kind x1.i x1.j x1.n x1.kids) (Tm.mk x2.kind x2.i x2.j x2.n x2.kids)), (decide (t2.i = x3)))
def c163_1 (t2 : Jd) (t4_0 : Int) (t4_1 : Int) (t4_2 : Int) (t4_3 : Int) (t4_4 : Int) (t4_5 : Int) (t4_7 : Int) (t4_8 : Int) (t4_9 : Int) (t4_10 : Int) (t6 : Tm) : Option (Fm × Bool) :=
  o163_1 t2 t4_0 t4_1 t4_2 t4_3 t4_4 t4_5 t4_7 t4_8 t4_9 t4_10 t6
def f163 (a0 : Jd) (a1 : Int) : Option (Fm × Bool) := o163_0 (c163_1) a0 a1
def an163 : An := (.n none [] 0 .z (.n none [] 0 .z (.n (some 1) [(2, .ps 0 .jd false), (4, .p 1 [.c, .c, .c, .c, .c, .c, .k, .c, .c, .c, .c, .k]), (6, .ps 2 .tm false)] 3 .z .z)))
def F163 : Fn := { f := 163, a := an163, vars := [.cell 4 125, .tmp 5], ps := [.st .jd, .sc .int], rs := [.st .fm, .sc .bool], own := false, fr := false, nt := 38, D := 3, loops := [] }
def cs163 : List Cal := [⟨162, [.st .fm], [.sc .int], true, fun a => f162 a.1⟩]
def st163_1 (t2 : Jd) (t4_0 : Int) (t4_1 : Int) (t4_2 : Int) (t4_3 : Int) (t4_4 : Int) (t4_5 : Int) (t4_7 : Int) (t4_8 : Int) (t4_9 : Int) (t4_10 : Int) (t6 : Tm) : SS := ⟨[(2, .v (.one (.ptr 0 0))), (4, .v (.one (.ptr 1 0))), (6, .v (.one (.ptr 2 0)))], [(0, some (.bst .jd t2 false)), (1, some (.box [.c (.int t4_0) true, .c (.int t4_1) true, .c (.int t4_2) true, .c (.int t4_3) true, .c (.int t4_4) true, .c (.int t4_5) true, .nils, .c (.int t4_7) true, .c (.int t4_8) true, .c (.int t4_9) true, .c (.int t4_10) true, .nils])), (2, some (.bst .tm t6 false))], 3⟩
theorem p163_0 (lab : Nat → SS → Option (RT.den F163.rs)) (x : PTs.den F163.ps) : F163.body (bodyOf Try.f163) tabR tyR true cs163 lab x = o163_0 (fun t2 t4_0 t4_1 t4_2 t4_3 t4_4 t4_5 t4_7 t4_8 t4_9 t4_10 t6 => lab 1 (st163_1 t2 t4_0 t4_1 t4_2 t4_3 t4_4 t4_5 t4_7 t4_8 t4_9 t4_10 t6)) x.1 x.2.1 := by kernel_rfl
theorem p163_1 (lab : Nat → SS → Option (RT.den F163.rs)) (t2 : Jd) (t4_0 : Int) (t4_1 : Int) (t4_2 : Int) (t4_3 : Int) (t4_4 : Int) (t4_5 : Int) (t4_7 : Int) (t4_8 : Int) (t4_9 : Int) (t4_10 : Int) (t6 : Tm) : F163.at (bodyOf Try.f163) tabR tyR true cs163 lab 1 (st163_1 t2 t4_0 t4_1 t4_2 t4_3 t4_4 t4_5 t4_7 t4_8 t4_9 t4_10 t6) = o163_1 t2 t4_0 t4_1 t4_2 t4_3 t4_4 t4_5 t4_7 t4_8 t4_9 t4_10 t6 := by kernel_rfl
theorem n163_1 (rec : Nat → SS → Option (RT.den F163.rs)) (d : Nat) (t2 : Jd) (t4_0 : Int) (t4_1 : Int) (t4_2 : Int) (t4_3 : Int) (t4_4 : Int) (t4_5 : Int) (t4_7 : Int) (t4_8 : Int) (t4_9 : Int) (t4_10 : Int) (t6 : Tm) : F163.labD (bodyOf Try.f163) tabR tyR true cs163 rec (d + 1) 1 (st163_1 t2 t4_0 t4_1 t4_2 t4_3 t4_4 t4_5 t4_7 t4_8 t4_9 t4_10 t6) = c163_1 t2 t4_0 t4_1 t4_2 t4_3 t4_4 t4_5 t4_7 t4_8 t4_9 t4_10 t6 := by
  show F163.labD (bodyOf Try.f163) tabR tyR true cs163 rec (d + 1) 1 _ = _
  rw [Fn.labD_succ, p163_1]
  rfl
theorem w163 (x : PTs.den F163.ps) : F163.body (bodyOf Try.f163) tabR tyR true cs163 (F163.labX (bodyOf Try.f163) tabR tyR true cs163 (F163.labM (bodyOf Try.f163) tabR tyR true cs163 0) F163.D) x = o163_0 (c163_1) x.1 x.2.1 := by
  have e1 : ∀ t2 t4_0 t4_1 t4_2 t4_3 t4_4 t4_5 t4_7 t4_8 t4_9 t4_10 t6, F163.labX (bodyOf Try.f163) tabR tyR true cs163 (F163.labM (bodyOf Try.f163) tabR tyR true cs163 0) 3 1 (st163_1 t2 t4_0 t4_1 t4_2 t4_3 t4_4 t4_5 t4_7 t4_8 t4_9 t4_10 t6) = c163_1 t2 t4_0 t4_1 t4_2 t4_3 t4_4 t4_5 t4_7 t4_8 t4_9 t4_10 t6 := fun t2 t4_0 t4_1 t4_2 t4_3 t4_4 t4_5 t4_7 t4_8 t4_9 t4_10 t6 => (Fn.labX_step _ _ _ _ _ _ _ _ _ _ (by kernel_rfl)).trans (n163_1 (F163.labM (bodyOf Try.f163) tabR tyR true cs163 0) 2 t2 t4_0 t4_1 t4_2 t4_3 t4_4 t4_5 t4_7 t4_8 t4_9 t4_10 t6)
  show F163.body (bodyOf Try.f163) tabR tyR true cs163 (F163.labX (bodyOf Try.f163) tabR tyR true cs163 (F163.labM (bodyOf Try.f163) tabR tyR true cs163 0) 3) x = _
  rw [p163_0]
  simp only [e1]
  try rfl
theorem call163 : Callable Try.prog 163 := callable_of Try.func163 (by kernel_rfl) (by kernel_rfl)
theorem ok163 : Cal.Ok Try.prog ⟨163, F163.ps, F163.rs, F163.fr, fun a => f163 a.1 a.2.1⟩ :=
  cal_of_fn F163 (code := bodyOf Try.f163) Try.func163 (by kernel_rfl) (by kernel_rfl) call163 htabR (cs := cs163) (fun c hc => by
      simp only [cs163, List.mem_cons, List.not_mem_nil, or_false] at hc
      rcases hc with rfl
      · exact ok162) (fun _ => mixed) (by kernel_rfl) (by kernel_rfl) (by decide) (fun x => ⟨0, w163 x⟩)
-- tranship/rule.paired
def o164_0 (n : Nat) (k1 : (List Jd) → Int → Int → Int → Int → Int → Int → Int → Int → Int → Int → Int → Int → Int → Int → Int → Int → Int → Int → Int → Int → (List Tm) → Int → Int → Int → Int → (List Tm) → Option (Fm × Tm × Bool)) (a0 : List Jd) : Option (Fm × Tm × Bool) :=
  atI a0 (1 : Int) fun x1 =>
  (f139 x1 false).bind fun x2 =>
  atI a0 (0 : Int) fun x3 =>
  atI a0 (0 : Int) fun x4 =>
  atI a0 (1 : Int) fun x5 =>
  ifB (!x2.2) (
    some ((Fm.mk (0 : Int) (0 : Int) (Tm.mk (0 : Int) (0 : Int) (0 : Int) (0 : Int) ([] : List Tm)) (Tm.mk (0 : Int) (0 : Int) (0 : Int) (0 : Int) ([] : List Tm))), (Tm.mk (0 : Int) (0 : Int) (0 : Int) (0 : Int) ([] : List Tm)), false)) (
    atI a0 (0 : Int) fun x6 =>
    ifB x6.eq (
      some ((Fm.mk (0 : Int) (0 : Int) (Tm.mk (0 : Int) (0 : Int) (0 : Int) (0 : Int) ([] : List Tm)) (Tm.mk (0 : Int) (0 : Int) (0 : Int) (0 : Int) ([] : List Tm))), (Tm.mk (0 : Int) (0 : Int) (0 : Int) (0 : Int) ([] : List Tm)), false)) (
      atI a0 (2 : Int) fun x7 =>
      atI a0 (0 : Int) fun x8 =>
      (f36 n (Tm.mk x5.u.kind x5.u.i x5.u.j x5.u.n x5.u.kids) x8.u).bind fun x9 =>
      (f157 n x7 false x9 x2.1).bind fun x10 =>
      ifB (!x10) (
        some ((Fm.mk (0 : Int) (0 : Int) (Tm.mk (0 : Int) (0 : Int) (0 : Int) (0 : Int) ([] : List Tm)) (Tm.mk (0 : Int) (0 : Int) (0 : Int) (0 : Int) ([] : List Tm))), (Tm.mk (0 : Int) (0 : Int) (0 : Int) (0 : Int) ([] : List Tm)), false)) (
        k1 a0 (0 : Int) (0 : Int) (0 : Int) (0 : Int) (0 : Int) (0 : Int) (0 : Int) (0 : Int) (0 : Int) (0 : Int) (0 : Int) (0 : Int) (0 : Int) (0 : Int) x3.i x2.1 x4.a.kind x4.a.i x4.a.j x4.a.n x4.a.kids x5.u.kind x5.u.i x5.u.j x5.u.n x5.u.kids)))
def o164_1 (n : Nat) (t0 : List Jd) (t2_0 : Int) (t2_1 : Int) (t2_2 : Int) (t2_3 : Int) (t2_4 : Int) (t2_5 : Int) (t2_7 : Int) (t2_8 : Int) (t2_9 : Int) (t2_10 : Int) (t3_0 : Int) (t3_1 : Int) (t3_2 : Int) (t3_3 : Int) (t7_0 : Int) (t7_1 : Int) (t7_2 : Int) (t7_3 : Int) (t7_4 : Int) (t7_5 : Int) (t7_6 : List Tm) (t7_7 : Int) (t7_8 : Int) (t7_9 : Int) (t7_10 : Int) (t7_11 : List Tm) : Option (Fm × Tm × Bool) :=
  atI t0 (0 : Int) fun x11 =>
  atI t0 (2 : Int) fun x12 =>
  (f161 (Fm.mk t7_0 t7_1 (Tm.mk t7_2 t7_3 t7_4 t7_5 t7_6) (Tm.mk t7_7 t7_8 t7_9 t7_10 t7_11)) (7 : Int) [(Tm.mk x11.u.kind x11.u.i x11.u.j x11.u.n x11.u.kids), (Tm.mk x12.u.kind x12.u.i x12.u.j x12.u.n x12.u.kids)]).bind fun x13 =>
  some ((Fm.mk t7_0 t7_1 (Tm.mk t7_2 t7_3 t7_4 t7_5 t7_6) (Tm.mk t7_7 t7_8 t7_9 t7_10 t7_11)), x13, true)
def c164_1 (n : Nat) (t0 : List Jd) (t2_0 : Int) (t2_1 : Int) (t2_2 : Int) (t2_3 : Int) (t2_4 : Int) (t2_5 : Int) (t2_7 : Int) (t2_8 : Int) (t2_9 : Int) (t2_10 : Int) (t3_0 : Int) (t3_1 : Int) (t3_2 : Int) (t3_3 : Int) (t7_0 : Int) (t7_1 : Int) (t7_2 : Int) (t7_3 : Int) (t7_4 : Int) (t7_5 : Int) (t7_6 : List Tm) (t7_7 : Int) (t7_8 : Int) (t7_9 : Int) (t7_10 : Int) (t7_11 : List Tm) : Option (Fm × Tm × Bool) :=
  o164_1 n t0 t2_0 t2_1 t2_2 t2_3 t2_4 t2_5 t2_7 t2_8 t2_9 t2_10 t3_0 t3_1 t3_2 t3_3 t7_0 t7_1 t7_2 t7_3 t7_4 t7_5 t7_6 t7_7 t7_8 t7_9 t7_10 t7_11
def f164 (n : Nat) (a0 : List Jd) : Option (Fm × Tm × Bool) := o164_0 n (c164_1 n) a0
def an164 : An := (.n none [] 0 .z (.n none [] 0 .z (.n none [] 0 .z (.n (some 1) [(0, .one (.d .jd false)), (2, .p 0 [.c, .c, .c, .c, .c, .c, .k, .c, .c, .c, .c, .k]), (3, .p 1 [.c, .c, .c, .c, .k]), (7, .p 2 [.c, .c, .c, .c, .c, .c, .d .tm false, .c, .c, .c, .c, .d .tm false])] 3 .z .z))))
def F164 : Fn := { f := 164, a := an164, vars := [.cell 2 125, .cell 3 24, .tmp 4], ps := [.sl .jd], rs := [.st .fm, .st .tm, .sc .bool], own := false, fr := false, nt := 67, D := 3, loops := [] }
def cs164 (n : Nat) : List Cal := [⟨36, [.st .tm, .st .tm], [.st .tm], true, fun a => f36 n a.1 a.2.1⟩, ⟨139, [.st .jd, .sc .bool], [.sc .int, .sc .bool], true, fun a => f139 a.1 a.2.1⟩, ⟨157, [.st .jd, .sc .bool, .st .tm, .sc .int], [.sc .bool], true, fun a => f157 n a.1 a.2.1 a.2.2.1 a.2.2.2.1⟩, ⟨161, [.st .fm, .sc .int, .sl .tm], [.st .tm], false, fun a => f161 a.1 a.2.1 a.2.2.1⟩]
def st164_1 (t0 : List Jd) (t2_0 : Int) (t2_1 : Int) (t2_2 : Int) (t2_3 : Int) (t2_4 : Int) (t2_5 : Int) (t2_7 : Int) (t2_8 : Int) (t2_9 : Int) (t2_10 : Int) (t3_0 : Int) (t3_1 : Int) (t3_2 : Int) (t3_3 : Int) (t7_0 : Int) (t7_1 : Int) (t7_2 : Int) (t7_3 : Int) (t7_4 : Int) (t7_5 : Int) (t7_6 : List Tm) (t7_7 : Int) (t7_8 : Int) (t7_9 : Int) (t7_10 : Int) (t7_11 : List Tm) : SS := ⟨[(0, .v (.one (.c (.sl .jd t0) false))), (2, .v (.one (.ptr 0 0))), (3, .v (.one (.ptr 1 0))), (7, .v (.one (.ptr 2 0)))], [(0, some (.box [.c (.int t2_0) true, .c (.int t2_1) true, .c (.int t2_2) true, .c (.int t2_3) true, .c (.int t2_4) true, .c (.int t2_5) true, .nils, .c (.int t2_7) true, .c (.int t2_8) true, .c (.int t2_9) true, .c (.int t2_10) true, .nils])), (1, some (.box [.c (.int t3_0) true, .c (.int t3_1) true, .c (.int t3_2) true, .c (.int t3_3) true, .nils])), (2, some (.box [.c (.int t7_0) true, .c (.int t7_1) true, .c (.int t7_2) true, .c (.int t7_3) true, .c (.int t7_4) true, .c (.int t7_5) true, .c (.sl .tm t7_6) false, .c (.int t7_7) true, .c (.int t7_8) true, .c (.int t7_9) true, .c (.int t7_10) true, .c (.sl .tm t7_11) false]))], 3⟩
theorem p164_0 (n : Nat) (lab : Nat → SS → Option (RT.den F164.rs)) (x : PTs.den F164.ps) : F164.body (bodyOf Try.f164) tabR tyR true (cs164 n) lab x = o164_0 n (fun t0 t2_0 t2_1 t2_2 t2_3 t2_4 t2_5 t2_7 t2_8 t2_9 t2_10 t3_0 t3_1 t3_2 t3_3 t7_0 t7_1 t7_2 t7_3 t7_4 t7_5 t7_6 t7_7 t7_8 t7_9 t7_10 t7_11 => lab 1 (st164_1 t0 t2_0 t2_1 t2_2 t2_3 t2_4 t2_5 t2_7 t2_8 t2_9 t2_10 t3_0 t3_1 t3_2 t3_3 t7_0 t7_1 t7_2 t7_3 t7_4 t7_5 t7_6 t7_7 t7_8 t7_9 t7_10 t7_11)) x.1 := by kernel_rfl
theorem p164_1 (n : Nat) (lab : Nat → SS → Option (RT.den F164.rs)) (t0 : List Jd) (t2_0 : Int) (t2_1 : Int) (t2_2 : Int) (t2_3 : Int) (t2_4 : Int) (t2_5 : Int) (t2_7 : Int) (t2_8 : Int) (t2_9 : Int) (t2_10 : Int) (t3_0 : Int) (t3_1 : Int) (t3_2 : Int) (t3_3 : Int) (t7_0 : Int) (t7_1 : Int) (t7_2 : Int) (t7_3 : Int) (t7_4 : Int) (t7_5 : Int) (t7_6 : List Tm) (t7_7 : Int) (t7_8 : Int) (t7_9 : Int) (t7_10 : Int) (t7_11 : List Tm) : F164.at (bodyOf Try.f164) tabR tyR true (cs164 n) lab 1 (st164_1 t0 t2_0 t2_1 t2_2 t2_3 t2_4 t2_5 t2_7 t2_8 t2_9 t2_10 t3_0 t3_1 t3_2 t3_3 t7_0 t7_1 t7_2 t7_3 t7_4 t7_5 t7_6 t7_7 t7_8 t7_9 t7_10 t7_11) = o164_1 n t0 t2_0 t2_1 t2_2 t2_3 t2_4 t2_5 t2_7 t2_8 t2_9 t2_10 t3_0 t3_1 t3_2 t3_3 t7_0 t7_1 t7_2 t7_3 t7_4 t7_5 t7_6 t7_7 t7_8 t7_9 t7_10 t7_11 := by kernel_rfl
theorem n164_1 (n : Nat) (rec : Nat → SS → Option (RT.den F164.rs)) (d : Nat) (t0 : List Jd) (t2_0 : Int) (t2_1 : Int) (t2_2 : Int) (t2_3 : Int) (t2_4 : Int) (t2_5 : Int) (t2_7 : Int) (t2_8 : Int) (t2_9 : Int) (t2_10 : Int) (t3_0 : Int) (t3_1 : Int) (t3_2 : Int) (t3_3 : Int) (t7_0 : Int) (t7_1 : Int) (t7_2 : Int) (t7_3 : Int) (t7_4 : Int) (t7_5 : Int) (t7_6 : List Tm) (t7_7 : Int) (t7_8 : Int) (t7_9 : Int) (t7_10 : Int) (t7_11 : List Tm) : F164.labD (bodyOf Try.f164) tabR tyR true (cs164 n) rec (d + 1) 1 (st164_1 t0 t2_0 t2_1 t2_2 t2_3 t2_4 t2_5 t2_7 t2_8 t2_9 t2_10 t3_0 t3_1 t3_2 t3_3 t7_0 t7_1 t7_2 t7_3 t7_4 t7_5 t7_6 t7_7 t7_8 t7_9 t7_10 t7_11) = c164_1 n t0 t2_0 t2_1 t2_2 t2_3 t2_4 t2_5 t2_7 t2_8 t2_9 t2_10 t3_0 t3_1 t3_2 t3_3 t7_0 t7_1 t7_2 t7_3 t7_4 t7_5 t7_6 t7_7 t7_8 t7_9 t7_10 t7_11 := by
  show F164.labD (bodyOf Try.f164) tabR tyR true (cs164 n) rec (d + 1) 1 _ = _
  rw [Fn.labD_succ, p164_1]
  rfl
theorem w164 (n : Nat) (x : PTs.den F164.ps) : F164.body (bodyOf Try.f164) tabR tyR true (cs164 n) (F164.labX (bodyOf Try.f164) tabR tyR true (cs164 n) (F164.labM (bodyOf Try.f164) tabR tyR true (cs164 n) 0) F164.D) x = o164_0 n (c164_1 n) x.1 := by
  have e1 : ∀ t0 t2_0 t2_1 t2_2 t2_3 t2_4 t2_5 t2_7 t2_8 t2_9 t2_10 t3_0 t3_1 t3_2 t3_3 t7_0 t7_1 t7_2 t7_3 t7_4 t7_5 t7_6 t7_7 t7_8 t7_9 t7_10 t7_11, F164.labX (bodyOf Try.f164) tabR tyR true (cs164 n) (F164.labM (bodyOf Try.f164) tabR tyR true (cs164 n) 0) 3 1 (st164_1 t0 t2_0 t2_1 t2_2 t2_3 t2_4 t2_5 t2_7 t2_8 t2_9 t2_10 t3_0 t3_1 t3_2 t3_3 t7_0 t7_1 t7_2 t7_3 t7_4 t7_5 t7_6 t7_7 t7_8 t7_9 t7_10 t7_11) = c164_1 n t0 t2_0 t2_1 t2_2 t2_3 t2_4 t2_5 t2_7 t2_8 t2_9 t2_10 t3_0 t3_1 t3_2 t3_3 t7_0 t7_1 t7_2 t7_3 t7_4 t7_5 t7_6 t7_7 t7_8 t7_9 t7_10 t7_11 := fun t0 t2_0 t2_1 t2_2 t2_3 t2_4 t2_5 t2_7 t2_8 t2_9 t2_10 t3_0 t3_1 t3_2 t3_3 t7_0 t7_1 t7_2 t7_3 t7_4 t7_5 t7_6 t7_7 t7_8 t7_9 t7_10 t7_11 => (Fn.labX_step _ _ _ _ _ _ _ _ _ _ (by kernel_rfl)).trans (n164_1 n (F164.labM (bodyOf Try.f164) tabR tyR true (cs164 n) 0) 2 t0 t2_0 t2_1 t2_2 t2_3 t2_4 t2_5 t2_7 t2_8 t2_9 t2_10 t3_0 t3_1 t3_2 t3_3 t7_0 t7_1 t7_2 t7_3 t7_4 t7_5 t7_6 t7_7 t7_8 t7_9 t7_10 t7_11)
  show F164.body (bodyOf Try.f164) tabR tyR true (cs164 n) (F164.labX (bodyOf Try.f164) tabR tyR true (cs164 n) (F164.labM (bodyOf Try.f164) tabR tyR true (cs164 n) 0) 3) x = _
  rw [p164_0]
  simp only [e1]
  try rfl
theorem call164 : Callable Try.prog 164 := callable_of Try.func164 (by kernel_rfl) (by kernel_rfl)
theorem ok164 (n : Nat) : Cal.Ok Try.prog ⟨164, F164.ps, F164.rs, F164.fr, fun a => f164 n a.1⟩ :=
  cal_of_fn F164 (code := bodyOf Try.f164) Try.func164 (by kernel_rfl) (by kernel_rfl) call164 htabR (cs := cs164 n) (fun c hc => by
      simp only [cs164, List.mem_cons, List.not_mem_nil, or_false] at hc
      rcases hc with rfl | rfl | rfl | rfl
      · exact ok36 n
      · exact ok139
      · exact ok157 n
      · exact ok161) (fun _ => mixed) (by kernel_rfl) (by kernel_rfl) (by decide) (fun x => ⟨0, w164 n x⟩)
-- tranship/rule.under
def o167_0 (n : Nat) (a0 : Tm) (a1 : Int) : Option Tm :=
  (f33 n a0 (1 : Int) a1).bind fun x1 =>
  some x1
def f167 (n : Nat) (a0 : Tm) (a1 : Int) : Option Tm := o167_0 n a0 a1
def an167 : An := .z
def F167 : Fn := { f := 167, a := an167, vars := [.cell 4 24], ps := [.st .tm, .sc .int], rs := [.st .tm], own := false, fr := true, nt := 8, D := 2, loops := [] }
def cs167 (n : Nat) : List Cal := [⟨33, [.st .tm, .sc .int, .sc .int], [.st .tm], true, fun a => f33 n a.1 a.2.1 a.2.2.1⟩]
theorem p167_0 (n : Nat) (lab : Nat → SS → Option (RT.den F167.rs)) (x : PTs.den F167.ps) : F167.body (bodyOf Try.f167) tabR tyR true (cs167 n) lab x = o167_0 n x.1 x.2.1 := by kernel_rfl
theorem w167 (n : Nat) (x : PTs.den F167.ps) : F167.body (bodyOf Try.f167) tabR tyR true (cs167 n) (F167.labX (bodyOf Try.f167) tabR tyR true (cs167 n) (F167.labM (bodyOf Try.f167) tabR tyR true (cs167 n) 0) F167.D) x = o167_0 n x.1 x.2.1 := by
  show F167.body (bodyOf Try.f167) tabR tyR true (cs167 n) (F167.labX (bodyOf Try.f167) tabR tyR true (cs167 n) (F167.labM (bodyOf Try.f167) tabR tyR true (cs167 n) 0) 2) x = _
  rw [p167_0]
theorem call167 : Callable Try.prog 167 := callable_of Try.func167 (by kernel_rfl) (by kernel_rfl)
theorem ok167 (n : Nat) : Cal.Ok Try.prog ⟨167, F167.ps, F167.rs, F167.fr, fun a => f167 n a.1 a.2.1⟩ :=
  cal_of_fn F167 (code := bodyOf Try.f167) Try.func167 (by kernel_rfl) (by kernel_rfl) call167 htabR (cs := cs167 n) (fun c hc => by
      simp only [cs167, List.mem_cons, List.not_mem_nil, or_false] at hc
      rcases hc with rfl
      · exact ok33 n) (fun _ => mixed) (by kernel_rfl) (by kernel_rfl) (by decide) (fun x => ⟨0, w167 n x⟩)
-- tranship/rule.reckoned
def o160_0 (n : Nat) (a0 : Int) (a1 : List Jd) : Option (Jd × Bool) :=
  atI a1 (0 : Int) fun x1 =>
  ifB (decide (a0 = (18 : Int))) (
    atI a1 (1 : Int) fun x2 =>
    atI a1 (1 : Int) fun x3 =>
    atI a1 (1 : Int) fun x4 =>
    (f161 (Fm.mk x1.i x2.i (Tm.mk x1.a.kind x1.a.i x1.a.j x1.a.n x1.a.kids) (Tm.mk x3.a.kind x3.a.i x3.a.j x3.a.n x3.a.kids)) (4 : Int) [(Tm.mk x4.u.kind x4.u.i x4.u.j x4.u.n x4.u.kids)]).bind fun x5 =>
    (f161 (Fm.mk x1.i x2.i (Tm.mk x1.a.kind x1.a.i x1.a.j x1.a.n x1.a.kids) (Tm.mk x3.a.kind x3.a.i x3.a.j x3.a.n x3.a.kids)) (5 : Int) [(Tm.mk x5.kind x5.i x5.j x5.n x5.kids), (Tm.mk x1.u.kind x1.u.i x1.u.j x1.u.n x1.u.kids)]).bind fun x6 =>
    atI a1 (1 : Int) fun x7 =>
    (f36 n x7.u x1.u).bind fun x8 =>
    (f36 n (Tm.mk x3.a.kind x3.a.i x3.a.j x3.a.n x3.a.kids) x1.u).bind fun x9 =>
    (f156 x6 x8 x9 x2.i).bind fun x10 =>
    ifB (!x1.eq) (
      atI a1 (1 : Int) fun x11 =>
      some (x10, (!x11.eq))) (
      some (x10, false))) (
    ifB (decide (a0 = (19 : Int))) (
      (f164 n a1).bind fun x12 =>
      (f161 x12.1 (8 : Int) [(Tm.mk x12.2.1.kind x12.2.1.i x12.2.1.j x12.2.1.n x12.2.1.kids)]).bind fun x13 =>
      (f156 x13 x1.u x12.1.a x12.1.i).bind fun x14 =>
      some (x14, x12.2.2)) (
      ifB (decide (a0 = (20 : Int))) (
        (f164 n a1).bind fun x15 =>
        ifB (!x15.2.2) (
          some ((Jd.mk false (Tm.mk (0 : Int) (0 : Int) (0 : Int) (0 : Int) ([] : List Tm)) (Tm.mk (0 : Int) (0 : Int) (0 : Int) (0 : Int) ([] : List Tm)) (Tm.mk (0 : Int) (0 : Int) (0 : Int) (0 : Int) ([] : List Tm)) (0 : Int)), false)) (
          (f161 x15.1 (9 : Int) [(Tm.mk x15.2.1.kind x15.2.1.i x15.2.1.j x15.2.1.n x15.2.1.kids)]).bind fun x16 =>
          atI a1 (2 : Int) fun x17 =>
          (f36 n x15.1.b x1.u).bind fun x18 =>
          (f156 x16 x17.u x18 x15.1.j).bind fun x19 =>
          some (x19, true))) (
        ifB (decide (a0 = (21 : Int))) (
          (f163 x1 (3 : Int)).bind fun x20 =>
          ifB (!x20.2) (
            some ((Jd.mk false (Tm.mk (0 : Int) (0 : Int) (0 : Int) (0 : Int) ([] : List Tm)) (Tm.mk (0 : Int) (0 : Int) (0 : Int) (0 : Int) ([] : List Tm)) (Tm.mk (0 : Int) (0 : Int) (0 : Int) (0 : Int) ([] : List Tm)) (0 : Int)), false)) (
            (f167 n x20.1.a (0 : Int)).bind fun x21 =>
            (f167 n x20.1.b (1 : Int)).bind fun x22 =>
            (f167 n x1.u (0 : Int)).bind fun x23 =>
            (f143 (0 : Int)).bind fun x24 =>
            (f161 (Fm.mk x20.1.i x20.1.j (Tm.mk x21.kind x21.i x21.j x21.n x21.kids) (Tm.mk x22.kind x22.i x22.j x22.n x22.kids)) (5 : Int) [(Tm.mk x23.kind x23.i x23.j x23.n x23.kids), (Tm.mk x24.kind x24.i x24.j x24.n x24.kids)]).bind fun x25 =>
            (f161 x20.1 (4 : Int) [(Tm.mk x25.kind x25.i x25.j x25.n x25.kids)]).bind fun x26 =>
            (f161 x20.1 (3 : Int) ([] : List Tm)).bind fun x27 =>
            (f162 x20.1).bind fun x28 =>
            (f156 x1.u x26 x27 x28).bind fun x29 =>
            some (x29, true))) (
          ifB (decide (a0 = (22 : Int))) (
            (f163 x1 (6 : Int)).bind fun x30 =>
            ifB (!x30.2) (
              some ((Jd.mk false (Tm.mk (0 : Int) (0 : Int) (0 : Int) (0 : Int) ([] : List Tm)) (Tm.mk (0 : Int) (0 : Int) (0 : Int) (0 : Int) ([] : List Tm)) (Tm.mk (0 : Int) (0 : Int) (0 : Int) (0 : Int) ([] : List Tm)) (0 : Int)), false)) (
              (f161 x30.1 (8 : Int) [(Tm.mk x1.u.kind x1.u.i x1.u.j x1.u.n x1.u.kids)]).bind fun x31 =>
              (f161 x30.1 (9 : Int) [(Tm.mk x1.u.kind x1.u.i x1.u.j x1.u.n x1.u.kids)]).bind fun x32 =>
              (f161 x30.1 (7 : Int) [(Tm.mk x31.kind x31.i x31.j x31.n x31.kids), (Tm.mk x32.kind x32.i x32.j x32.n x32.kids)]).bind fun x33 =>
              (f161 x30.1 (6 : Int) ([] : List Tm)).bind fun x34 =>
              (f162 x30.1).bind fun x35 =>
              (f156 x1.u x33 x34 x35).bind fun x36 =>
              some (x36, true))) (
            some ((Jd.mk false (Tm.mk (0 : Int) (0 : Int) (0 : Int) (0 : Int) ([] : List Tm)) (Tm.mk (0 : Int) (0 : Int) (0 : Int) (0 : Int) ([] : List Tm)) (Tm.mk (0 : Int) (0 : Int) (0 : Int) (0 : Int) ([] : List Tm)) (0 : Int)), false))))))
def f160 (n : Nat) (a0 : Int) (a1 : List Jd) : Option (Jd × Bool) := o160_0 n a0 a1
def an160 : An := .z
def F160 : Fn := { f := 160, a := an160, vars := [.cell 4 49, .tmp 5], ps := [.sc .int, .sl .jd], rs := [.st .jd, .sc .bool], own := false, fr := false, nt := 193, D := 2, loops := [] }
def cs160 (n : Nat) : List Cal := [⟨36, [.st .tm, .st .tm], [.st .tm], true, fun a => f36 n a.1 a.2.1⟩, ⟨143, [.sc .int], [.st .tm], true, fun a => f143 a.1⟩, ⟨156, [.st .tm, .st .tm, .st .tm, .sc .int], [.st .jd], false, fun a => f156 a.1 a.2.1 a.2.2.1 a.2.2.2.1⟩, ⟨161, [.st .fm, .sc .int, .sl .tm], [.st .tm], false, fun a => f161 a.1 a.2.1 a.2.2.1⟩, ⟨162, [.st .fm], [.sc .int], true, fun a => f162 a.1⟩, ⟨163, [.st .jd, .sc .int], [.st .fm, .sc .bool], false, fun a => f163 a.1 a.2.1⟩, ⟨164, [.sl .jd], [.st .fm, .st .tm, .sc .bool], false, fun a => f164 n a.1⟩, ⟨167, [.st .tm, .sc .int], [.st .tm], true, fun a => f167 n a.1 a.2.1⟩]
theorem p160_0 (n : Nat) (lab : Nat → SS → Option (RT.den F160.rs)) (x : PTs.den F160.ps) : F160.body (bodyOf Try.f160) tabR tyR true (cs160 n) lab x = o160_0 n x.1 x.2.1 := by kernel_rfl
theorem w160 (n : Nat) (x : PTs.den F160.ps) : F160.body (bodyOf Try.f160) tabR tyR true (cs160 n) (F160.labX (bodyOf Try.f160) tabR tyR true (cs160 n) (F160.labM (bodyOf Try.f160) tabR tyR true (cs160 n) 0) F160.D) x = o160_0 n x.1 x.2.1 := by
  show F160.body (bodyOf Try.f160) tabR tyR true (cs160 n) (F160.labX (bodyOf Try.f160) tabR tyR true (cs160 n) (F160.labM (bodyOf Try.f160) tabR tyR true (cs160 n) 0) 2) x = _
  rw [p160_0]
theorem call160 : Callable Try.prog 160 := callable_of Try.func160 (by kernel_rfl) (by kernel_rfl)
theorem ok160 (n : Nat) : Cal.Ok Try.prog ⟨160, F160.ps, F160.rs, F160.fr, fun a => f160 n a.1 a.2.1⟩ :=
  cal_of_fn F160 (code := bodyOf Try.f160) Try.func160 (by kernel_rfl) (by kernel_rfl) call160 htabR (cs := cs160 n) (fun c hc => by
      simp only [cs160, List.mem_cons, List.not_mem_nil, or_false] at hc
      rcases hc with rfl | rfl | rfl | rfl | rfl | rfl | rfl | rfl
      · exact ok36 n
      · exact ok143
      · exact ok156
      · exact ok161
      · exact ok162
      · exact ok163
      · exact ok164 n
      · exact ok167 n) (fun _ => mixed) (by kernel_rfl) (by kernel_rfl) (by decide) (fun x => ⟨0, w160 n x⟩)
-- tranship/rule.alike
def o145_0 (n : Nat) (k1 : Bool → Int → Int → Int → Int → Int → Int → Int → Int → Int → Int → Int → Int → Int → Jd → Tm → Option (Jd × Bool)) (k2 : Int → (List Jd) → Bool → Int → Int → Int → Int → Int → Int → Int → Int → Int → Int → Int → Int → Int → Bool → Option (Jd × Bool)) (a0 : Int) (a1 : List Jd) : Option (Jd × Bool) :=
  atI a1 (0 : Int) fun x1 =>
  ifB (decide (a0 = (13 : Int))) (
    (f156 x1.u x1.u x1.a x1.i).bind fun x2 =>
    some (x2, (!x1.eq))) (
    ifB (decide (a0 = (14 : Int))) (
      (f156 x1.v x1.u x1.a x1.i).bind fun x3 =>
      some (x3, x1.eq)) (
      ifB (decide (a0 = (15 : Int))) (
        atI a1 (1 : Int) fun x4 =>
        (f156 x1.u x4.v x1.a x1.i).bind fun x5 =>
        ifB x1.eq (
          (f157 n x4 true x1.a x1.i).bind fun x6 =>
          ifB x6 (
            (f104 n x1.v x4.u).bind fun x7 =>
            some (x5, x7)) (
            some (x5, false))) (
          some (x5, false))) (
        ifB (decide (a0 = (16 : Int))) (
          atI a1 (1 : Int) fun x8 =>
          (f156 x1.u x1.v x8.v x1.i).bind fun x9 =>
          ifB x1.eq (
            atI a1 (1 : Int) fun x10 =>
            (f158 n x1 x10).bind fun x11 =>
            some (x9, x11)) (
            some (x9, false))) (
          ifB (decide (a0 = (17 : Int))) (
            ifB x1.eq (
              some ((Jd.mk false (Tm.mk (0 : Int) (0 : Int) (0 : Int) (0 : Int) ([] : List Tm)) (Tm.mk (0 : Int) (0 : Int) (0 : Int) (0 : Int) ([] : List Tm)) (Tm.mk (0 : Int) (0 : Int) (0 : Int) (0 : Int) ([] : List Tm)) (0 : Int)), false)) (
              ifB (!decide (x1.a.kind = (10 : Int))) (
                some ((Jd.mk false (Tm.mk (0 : Int) (0 : Int) (0 : Int) (0 : Int) ([] : List Tm)) (Tm.mk (0 : Int) (0 : Int) (0 : Int) (0 : Int) ([] : List Tm)) (Tm.mk (0 : Int) (0 : Int) (0 : Int) (0 : Int) ([] : List Tm)) (0 : Int)), false)) (
                ifB (!decide (x1.a.i = x1.i)) (
                  some ((Jd.mk false (Tm.mk (0 : Int) (0 : Int) (0 : Int) (0 : Int) ([] : List Tm)) (Tm.mk (0 : Int) (0 : Int) (0 : Int) (0 : Int) ([] : List Tm)) (Tm.mk (0 : Int) (0 : Int) (0 : Int) (0 : Int) ([] : List Tm)) (0 : Int)), false)) (
                  k1 false (0 : Int) (0 : Int) (0 : Int) (0 : Int) (0 : Int) (0 : Int) (0 : Int) (0 : Int) (0 : Int) (0 : Int) (0 : Int) (0 : Int) (0 : Int) x1 x1.a)))) (
            ifB (decide (a0 = (23 : Int))) (
              atI a1 (1 : Int) fun x12 =>
              (f36 n x12.u x1.u).bind fun x13 =>
              (f36 n x12.u x1.v).bind fun x14 =>
              (f36 n x12.a x1.u).bind fun x15 =>
              (f156 x13 x14 x15 x12.i).bind fun x16 =>
              ifB x1.eq (
                some (x16, (!x12.eq))) (
                some (x16, false))) (
              ifB (decide (a0 = (24 : Int))) (
                atI a1 (1 : Int) fun x17 =>
                (f156 x1.u x17.u x1.a x1.i).bind fun x18 =>
                ifB (!x1.eq) (
                  ifB (decide (x1.a.kind = (10 : Int))) (
                    ifB (decide (x1.a.i = x1.i)) (
                      (f157 n x17 false x1.a x1.i).bind fun x19 =>
                      some (x18, x19)) (
                      some (x18, false))) (
                    some (x18, false))) (
                  some (x18, false))) (
                ifB (decide (a0 = (25 : Int))) (
                  k2 a0 a1 false (0 : Int) (0 : Int) (0 : Int) (0 : Int) (0 : Int) (0 : Int) (0 : Int) (0 : Int) (0 : Int) (0 : Int) (0 : Int) (0 : Int) (0 : Int) (decide (a0 = (25 : Int)))) (
                  ifB (decide (a0 = (26 : Int))) (
                    k2 a0 a1 false (0 : Int) (0 : Int) (0 : Int) (0 : Int) (0 : Int) (0 : Int) (0 : Int) (0 : Int) (0 : Int) (0 : Int) (0 : Int) (0 : Int) (0 : Int) (decide (a0 = (26 : Int)))) (
                    ifB (decide (a0 = (27 : Int))) (
                      k2 a0 a1 false (0 : Int) (0 : Int) (0 : Int) (0 : Int) (0 : Int) (0 : Int) (0 : Int) (0 : Int) (0 : Int) (0 : Int) (0 : Int) (0 : Int) (0 : Int) (decide (a0 = (27 : Int)))) (
                      k2 a0 a1 false (0 : Int) (0 : Int) (0 : Int) (0 : Int) (0 : Int) (0 : Int) (0 : Int) (0 : Int) (0 : Int) (0 : Int) (0 : Int) (0 : Int) (0 : Int) (decide (a0 = (28 : Int)))))))))))))
def o145_1 (n : Nat) (t4_0 : Bool) (t4_1 : Int) (t4_2 : Int) (t4_3 : Int) (t4_4 : Int) (t4_6 : Int) (t4_7 : Int) (t4_8 : Int) (t4_9 : Int) (t4_11 : Int) (t4_12 : Int) (t4_13 : Int) (t4_14 : Int) (t4_16 : Int) (t6 : Jd) (t8 : Tm) : Option (Jd × Bool) :=
  atI t8.kids (1 : Int) fun x20 =>
  atI t8.kids (2 : Int) fun x21 =>
  atI t8.kids (0 : Int) fun x22 =>
  (f156 x20 x21 x22 t6.i).bind fun x23 =>
  some (x23, true)
def o145_2 (n : Nat) (t0 : Int) (t1 : List Jd) (t4_0 : Bool) (t4_1 : Int) (t4_2 : Int) (t4_3 : Int) (t4_4 : Int) (t4_6 : Int) (t4_7 : Int) (t4_8 : Int) (t4_9 : Int) (t4_11 : Int) (t4_12 : Int) (t4_13 : Int) (t4_14 : Int) (t4_16 : Int) (t198 : Bool) : Option (Jd × Bool) :=
  ifB t198 (
    (f159 n t0 t1).bind fun x24 =>
    some (x24.1, x24.2)) (
    (f160 n t0 t1).bind fun x25 =>
    some (x25.1, x25.2))
def c145_1 (n : Nat) (t4_0 : Bool) (t4_1 : Int) (t4_2 : Int) (t4_3 : Int) (t4_4 : Int) (t4_6 : Int) (t4_7 : Int) (t4_8 : Int) (t4_9 : Int) (t4_11 : Int) (t4_12 : Int) (t4_13 : Int) (t4_14 : Int) (t4_16 : Int) (t6 : Jd) (t8 : Tm) : Option (Jd × Bool) :=
  o145_1 n t4_0 t4_1 t4_2 t4_3 t4_4 t4_6 t4_7 t4_8 t4_9 t4_11 t4_12 t4_13 t4_14 t4_16 t6 t8
def c145_2 (n : Nat) (t0 : Int) (t1 : List Jd) (t4_0 : Bool) (t4_1 : Int) (t4_2 : Int) (t4_3 : Int) (t4_4 : Int) (t4_6 : Int) (t4_7 : Int) (t4_8 : Int) (t4_9 : Int) (t4_11 : Int) (t4_12 : Int) (t4_13 : Int) (t4_14 : Int) (t4_16 : Int) (t198 : Bool) : Option (Jd × Bool) :=
  o145_2 n t0 t1 t4_0 t4_1 t4_2 t4_3 t4_4 t4_6 t4_7 t4_8 t4_9 t4_11 t4_12 t4_13 t4_14 t4_16 t198
def f145 (n : Nat) (a0 : Int) (a1 : List Jd) : Option (Jd × Bool) := o145_0 n (c145_1 n) (c145_2 n) a0 a1
def an145 : An := (.n none [] 0 .z (.n none [] 0 .z (.n none [] 0 (.n none [] 0 .z (.n none [] 0 (.n none [] 0 .z (.n none [] 0 .z (.n none [] 0 .z (.n none [] 0 .z (.n none [] 0 .z (.n none [] 0 .z (.n none [] 0 .z (.n none [] 0 .z (.n none [] 0 .z (.n none [] 0 (.n none [] 0 .z (.n (some 1) [(4, .p 0 [.c, .c, .c, .c, .c, .k, .c, .c, .c, .c, .k, .c, .c, .c, .c, .k, .c]), (6, .ps 1 .jd false), (8, .ps 2 .tm false)] 3 .z .z)) (.n none [] 0 .z (.n none [] 0 .z (.n none [] 0 .z (.n none [] 0 .z (.n (some 2) [(0, .one .c), (1, .one (.d .jd false)), (4, .p 0 [.c, .c, .c, .c, .c, .k, .c, .c, .c, .c, .k, .c, .c, .c, .c, .k, .c]), (198, .one .c)] 1 .z .z))))))))))))))) .z)) .z)))
def F145 : Fn := { f := 145, a := an145, vars := [.cell 4 49, .tmp 5], ps := [.sc .int, .sl .jd], rs := [.st .jd, .sc .bool], own := false, fr := false, nt := 213, D := 4, loops := [] }
def cs145 (n : Nat) : List Cal := [⟨36, [.st .tm, .st .tm], [.st .tm], true, fun a => f36 n a.1 a.2.1⟩, ⟨104, [.st .tm, .st .tm], [.sc .bool], true, fun a => f104 n a.1 a.2.1⟩, ⟨156, [.st .tm, .st .tm, .st .tm, .sc .int], [.st .jd], false, fun a => f156 a.1 a.2.1 a.2.2.1 a.2.2.2.1⟩, ⟨157, [.st .jd, .sc .bool, .st .tm, .sc .int], [.sc .bool], true, fun a => f157 n a.1 a.2.1 a.2.2.1 a.2.2.2.1⟩, ⟨158, [.st .jd, .st .jd], [.sc .bool], true, fun a => f158 n a.1 a.2.1⟩, ⟨159, [.sc .int, .sl .jd], [.st .jd, .sc .bool], false, fun a => f159 n a.1 a.2.1⟩, ⟨160, [.sc .int, .sl .jd], [.st .jd, .sc .bool], false, fun a => f160 n a.1 a.2.1⟩]
def st145_1 (t4_0 : Bool) (t4_1 : Int) (t4_2 : Int) (t4_3 : Int) (t4_4 : Int) (t4_6 : Int) (t4_7 : Int) (t4_8 : Int) (t4_9 : Int) (t4_11 : Int) (t4_12 : Int) (t4_13 : Int) (t4_14 : Int) (t4_16 : Int) (t6 : Jd) (t8 : Tm) : SS := ⟨[(4, .v (.one (.ptr 0 0))), (6, .v (.one (.ptr 1 0))), (8, .v (.one (.ptr 2 0)))], [(0, some (.box [.c (.bool t4_0) true, .c (.int t4_1) true, .c (.int t4_2) true, .c (.int t4_3) true, .c (.int t4_4) true, .nils, .c (.int t4_6) true, .c (.int t4_7) true, .c (.int t4_8) true, .c (.int t4_9) true, .nils, .c (.int t4_11) true, .c (.int t4_12) true, .c (.int t4_13) true, .c (.int t4_14) true, .nils, .c (.int t4_16) true])), (1, some (.bst .jd t6 false)), (2, some (.bst .tm t8 false))], 3⟩
def st145_2 (t0 : Int) (t1 : List Jd) (t4_0 : Bool) (t4_1 : Int) (t4_2 : Int) (t4_3 : Int) (t4_4 : Int) (t4_6 : Int) (t4_7 : Int) (t4_8 : Int) (t4_9 : Int) (t4_11 : Int) (t4_12 : Int) (t4_13 : Int) (t4_14 : Int) (t4_16 : Int) (t198 : Bool) : SS := ⟨[(0, .v (.one (.c (.int t0) true))), (1, .v (.one (.c (.sl .jd t1) false))), (4, .v (.one (.ptr 0 0))), (198, .v (.one (.c (.bool t198) true)))], [(0, some (.box [.c (.bool t4_0) true, .c (.int t4_1) true, .c (.int t4_2) true, .c (.int t4_3) true, .c (.int t4_4) true, .nils, .c (.int t4_6) true, .c (.int t4_7) true, .c (.int t4_8) true, .c (.int t4_9) true, .nils, .c (.int t4_11) true, .c (.int t4_12) true, .c (.int t4_13) true, .c (.int t4_14) true, .nils, .c (.int t4_16) true]))], 1⟩
theorem p145_0 (n : Nat) (lab : Nat → SS → Option (RT.den F145.rs)) (x : PTs.den F145.ps) : F145.body (bodyOf Try.f145) tabR tyR true (cs145 n) lab x = o145_0 n (fun t4_0 t4_1 t4_2 t4_3 t4_4 t4_6 t4_7 t4_8 t4_9 t4_11 t4_12 t4_13 t4_14 t4_16 t6 t8 => lab 1 (st145_1 t4_0 t4_1 t4_2 t4_3 t4_4 t4_6 t4_7 t4_8 t4_9 t4_11 t4_12 t4_13 t4_14 t4_16 t6 t8)) (fun t0 t1 t4_0 t4_1 t4_2 t4_3 t4_4 t4_6 t4_7 t4_8 t4_9 t4_11 t4_12 t4_13 t4_14 t4_16 t198 => lab 2 (st145_2 t0 t1 t4_0 t4_1 t4_2 t4_3 t4_4 t4_6 t4_7 t4_8 t4_9 t4_11 t4_12 t4_13 t4_14 t4_16 t198)) x.1 x.2.1 := by kernel_rfl
theorem p145_1 (n : Nat) (lab : Nat → SS → Option (RT.den F145.rs)) (t4_0 : Bool) (t4_1 : Int) (t4_2 : Int) (t4_3 : Int) (t4_4 : Int) (t4_6 : Int) (t4_7 : Int) (t4_8 : Int) (t4_9 : Int) (t4_11 : Int) (t4_12 : Int) (t4_13 : Int) (t4_14 : Int) (t4_16 : Int) (t6 : Jd) (t8 : Tm) : F145.at (bodyOf Try.f145) tabR tyR true (cs145 n) lab 1 (st145_1 t4_0 t4_1 t4_2 t4_3 t4_4 t4_6 t4_7 t4_8 t4_9 t4_11 t4_12 t4_13 t4_14 t4_16 t6 t8) = o145_1 n t4_0 t4_1 t4_2 t4_3 t4_4 t4_6 t4_7 t4_8 t4_9 t4_11 t4_12 t4_13 t4_14 t4_16 t6 t8 := by kernel_rfl
theorem p145_2 (n : Nat) (lab : Nat → SS → Option (RT.den F145.rs)) (t0 : Int) (t1 : List Jd) (t4_0 : Bool) (t4_1 : Int) (t4_2 : Int) (t4_3 : Int) (t4_4 : Int) (t4_6 : Int) (t4_7 : Int) (t4_8 : Int) (t4_9 : Int) (t4_11 : Int) (t4_12 : Int) (t4_13 : Int) (t4_14 : Int) (t4_16 : Int) (t198 : Bool) : F145.at (bodyOf Try.f145) tabR tyR true (cs145 n) lab 2 (st145_2 t0 t1 t4_0 t4_1 t4_2 t4_3 t4_4 t4_6 t4_7 t4_8 t4_9 t4_11 t4_12 t4_13 t4_14 t4_16 t198) = o145_2 n t0 t1 t4_0 t4_1 t4_2 t4_3 t4_4 t4_6 t4_7 t4_8 t4_9 t4_11 t4_12 t4_13 t4_14 t4_16 t198 := by kernel_rfl
theorem n145_1 (n : Nat) (rec : Nat → SS → Option (RT.den F145.rs)) (d : Nat) (t4_0 : Bool) (t4_1 : Int) (t4_2 : Int) (t4_3 : Int) (t4_4 : Int) (t4_6 : Int) (t4_7 : Int) (t4_8 : Int) (t4_9 : Int) (t4_11 : Int) (t4_12 : Int) (t4_13 : Int) (t4_14 : Int) (t4_16 : Int) (t6 : Jd) (t8 : Tm) : F145.labD (bodyOf Try.f145) tabR tyR true (cs145 n) rec (d + 1) 1 (st145_1 t4_0 t4_1 t4_2 t4_3 t4_4 t4_6 t4_7 t4_8 t4_9 t4_11 t4_12 t4_13 t4_14 t4_16 t6 t8) = c145_1 n t4_0 t4_1 t4_2 t4_3 t4_4 t4_6 t4_7 t4_8 t4_9 t4_11 t4_12 t4_13 t4_14 t4_16 t6 t8 := by
  show F145.labD (bodyOf Try.f145) tabR tyR true (cs145 n) rec (d + 1) 1 _ = _
  rw [Fn.labD_succ, p145_1]
  rfl
theorem n145_2 (n : Nat) (rec : Nat → SS → Option (RT.den F145.rs)) (d : Nat) (t0 : Int) (t1 : List Jd) (t4_0 : Bool) (t4_1 : Int) (t4_2 : Int) (t4_3 : Int) (t4_4 : Int) (t4_6 : Int) (t4_7 : Int) (t4_8 : Int) (t4_9 : Int) (t4_11 : Int) (t4_12 : Int) (t4_13 : Int) (t4_14 : Int) (t4_16 : Int) (t198 : Bool) : F145.labD (bodyOf Try.f145) tabR tyR true (cs145 n) rec (d + 1) 2 (st145_2 t0 t1 t4_0 t4_1 t4_2 t4_3 t4_4 t4_6 t4_7 t4_8 t4_9 t4_11 t4_12 t4_13 t4_14 t4_16 t198) = c145_2 n t0 t1 t4_0 t4_1 t4_2 t4_3 t4_4 t4_6 t4_7 t4_8 t4_9 t4_11 t4_12 t4_13 t4_14 t4_16 t198 := by
  show F145.labD (bodyOf Try.f145) tabR tyR true (cs145 n) rec (d + 1) 2 _ = _
  rw [Fn.labD_succ, p145_2]
  rfl
theorem w145 (n : Nat) (x : PTs.den F145.ps) : F145.body (bodyOf Try.f145) tabR tyR true (cs145 n) (F145.labX (bodyOf Try.f145) tabR tyR true (cs145 n) (F145.labM (bodyOf Try.f145) tabR tyR true (cs145 n) 0) F145.D) x = o145_0 n (c145_1 n) (c145_2 n) x.1 x.2.1 := by
  have e1 : ∀ t4_0 t4_1 t4_2 t4_3 t4_4 t4_6 t4_7 t4_8 t4_9 t4_11 t4_12 t4_13 t4_14 t4_16 t6 t8, F145.labX (bodyOf Try.f145) tabR tyR true (cs145 n) (F145.labM (bodyOf Try.f145) tabR tyR true (cs145 n) 0) 4 1 (st145_1 t4_0 t4_1 t4_2 t4_3 t4_4 t4_6 t4_7 t4_8 t4_9 t4_11 t4_12 t4_13 t4_14 t4_16 t6 t8) = c145_1 n t4_0 t4_1 t4_2 t4_3 t4_4 t4_6 t4_7 t4_8 t4_9 t4_11 t4_12 t4_13 t4_14 t4_16 t6 t8 := fun t4_0 t4_1 t4_2 t4_3 t4_4 t4_6 t4_7 t4_8 t4_9 t4_11 t4_12 t4_13 t4_14 t4_16 t6 t8 => (Fn.labX_step _ _ _ _ _ _ _ _ _ _ (by kernel_rfl)).trans (n145_1 n (F145.labM (bodyOf Try.f145) tabR tyR true (cs145 n) 0) 3 t4_0 t4_1 t4_2 t4_3 t4_4 t4_6 t4_7 t4_8 t4_9 t4_11 t4_12 t4_13 t4_14 t4_16 t6 t8)
  have e2 : ∀ t0 t1 t4_0 t4_1 t4_2 t4_3 t4_4 t4_6 t4_7 t4_8 t4_9 t4_11 t4_12 t4_13 t4_14 t4_16 t198, F145.labX (bodyOf Try.f145) tabR tyR true (cs145 n) (F145.labM (bodyOf Try.f145) tabR tyR true (cs145 n) 0) 4 2 (st145_2 t0 t1 t4_0 t4_1 t4_2 t4_3 t4_4 t4_6 t4_7 t4_8 t4_9 t4_11 t4_12 t4_13 t4_14 t4_16 t198) = c145_2 n t0 t1 t4_0 t4_1 t4_2 t4_3 t4_4 t4_6 t4_7 t4_8 t4_9 t4_11 t4_12 t4_13 t4_14 t4_16 t198 := fun t0 t1 t4_0 t4_1 t4_2 t4_3 t4_4 t4_6 t4_7 t4_8 t4_9 t4_11 t4_12 t4_13 t4_14 t4_16 t198 => (Fn.labX_step _ _ _ _ _ _ _ _ _ _ (by kernel_rfl)).trans (n145_2 n (F145.labM (bodyOf Try.f145) tabR tyR true (cs145 n) 0) 3 t0 t1 t4_0 t4_1 t4_2 t4_3 t4_4 t4_6 t4_7 t4_8 t4_9 t4_11 t4_12 t4_13 t4_14 t4_16 t198)
  show F145.body (bodyOf Try.f145) tabR tyR true (cs145 n) (F145.labX (bodyOf Try.f145) tabR tyR true (cs145 n) (F145.labM (bodyOf Try.f145) tabR tyR true (cs145 n) 0) 4) x = _
  rw [p145_0]
  simp only [e1, e2]
  try rfl
theorem call145 : Callable Try.prog 145 := callable_of Try.func145 (by kernel_rfl) (by kernel_rfl)
theorem ok145 (n : Nat) : Cal.Ok Try.prog ⟨145, F145.ps, F145.rs, F145.fr, fun a => f145 n a.1 a.2.1⟩ :=
  cal_of_fn F145 (code := bodyOf Try.f145) Try.func145 (by kernel_rfl) (by kernel_rfl) call145 htabR (cs := cs145 n) (fun c hc => by
      simp only [cs145, List.mem_cons, List.not_mem_nil, or_false] at hc
      rcases hc with rfl | rfl | rfl | rfl | rfl | rfl | rfl
      · exact ok36 n
      · exact ok104 n
      · exact ok156
      · exact ok157 n
      · exact ok158 n
      · exact ok159 n
      · exact ok160 n) (fun _ => mixed) (by kernel_rfl) (by kernel_rfl) (by decide) (fun x => ⟨0, w145 n x⟩)
-- tranship/rule.typing
def o146_0 (n : Nat) (k1 : Int → (List Jd) → Bool → Int → Int → Int → Int → Int → Int → Int → Int → Int → Int → Int → Int → Int → Jd → Int → Bool → Option (Jd × Bool)) (a0 : Int) (a1 : List Jd) : Option (Jd × Bool) :=
  atI a1 (0 : Int) fun x1 =>
  ifB (decide (a0 = (3 : Int))) (
    k1 a0 a1 false (0 : Int) (0 : Int) (0 : Int) (0 : Int) (0 : Int) (0 : Int) (0 : Int) (0 : Int) (0 : Int) (0 : Int) (0 : Int) (0 : Int) (0 : Int) x1 a0 (decide (a0 = (3 : Int)))) (
    k1 a0 a1 false (0 : Int) (0 : Int) (0 : Int) (0 : Int) (0 : Int) (0 : Int) (0 : Int) (0 : Int) (0 : Int) (0 : Int) (0 : Int) (0 : Int) (0 : Int) x1 a0 (decide (a0 = (6 : Int))))
def o146_1 (n : Nat) (k2 : Bool → Int → Int → Int → Int → Int → Int → Int → Int → Int → Int → Int → Int → Int → Bool → Bool → Int → Int → Int → Int → Int → Int → (List Tm) → Int → Int → Int → Int → (List Tm) → Int → Option (Jd × Bool)) (k3 : (List Jd) → Bool → Int → Int → Int → Int → Int → Int → Int → Int → Int → Int → Int → Int → Int → Jd → Fm → Option (Jd × Bool)) (k4 : Int → (List Jd) → Bool → Int → Int → Int → Int → Int → Int → Int → Int → Int → Int → Int → Int → Int → Jd → Int → Bool → Option (Jd × Bool)) (t0 : Int) (t1 : List Jd) (t4_0 : Bool) (t4_1 : Int) (t4_2 : Int) (t4_3 : Int) (t4_4 : Int) (t4_6 : Int) (t4_7 : Int) (t4_8 : Int) (t4_9 : Int) (t4_11 : Int) (t4_12 : Int) (t4_13 : Int) (t4_14 : Int) (t4_16 : Int) (t6 : Jd) (t27 : Int) (t28 : Bool) : Option (Jd × Bool) :=
  ifB t28 (
    (f139 t6 false).bind fun x2 =>
    atI t1 (1 : Int) fun x3 =>
    (f139 x3 false).bind fun x4 =>
    atI t1 (1 : Int) fun x5 =>
    ifB (decide (t0 = (6 : Int))) (
      k2 t4_0 t4_1 t4_2 t4_3 t4_4 t4_6 t4_7 t4_8 t4_9 t4_11 t4_12 t4_13 t4_14 t4_16 x2.2 x4.2 x2.1 x4.1 t6.u.kind t6.u.i t6.u.j t6.u.n t6.u.kids x5.u.kind x5.u.i x5.u.j x5.u.n x5.u.kids (6 : Int)) (
      k2 t4_0 t4_1 t4_2 t4_3 t4_4 t4_6 t4_7 t4_8 t4_9 t4_11 t4_12 t4_13 t4_14 t4_16 x2.2 x4.2 x2.1 x4.1 t6.u.kind t6.u.i t6.u.j t6.u.n t6.u.kids x5.u.kind x5.u.i x5.u.j x5.u.n x5.u.kids (3 : Int))) (
    ifB (decide (t27 = (4 : Int))) (
      (f139 t6 false).bind fun x6 =>
      atI t1 (1 : Int) fun x7 =>
      atI t1 (1 : Int) fun x8 =>
      atI t1 (1 : Int) fun x9 =>
      (f161 (Fm.mk x6.1 x7.i (Tm.mk t6.u.kind t6.u.i t6.u.j t6.u.n t6.u.kids) (Tm.mk x8.a.kind x8.a.i x8.a.j x8.a.n x8.a.kids)) (4 : Int) [(Tm.mk x9.u.kind x9.u.i x9.u.j x9.u.n x9.u.kids)]).bind fun x10 =>
      (f161 (Fm.mk x6.1 x7.i (Tm.mk t6.u.kind t6.u.i t6.u.j t6.u.n t6.u.kids) (Tm.mk x8.a.kind x8.a.i x8.a.j x8.a.n x8.a.kids)) (3 : Int) ([] : List Tm)).bind fun x11 =>
      (f162 (Fm.mk x6.1 x7.i (Tm.mk t6.u.kind t6.u.i t6.u.j t6.u.n t6.u.kids) (Tm.mk x8.a.kind x8.a.i x8.a.j x8.a.n x8.a.kids))).bind fun x12 =>
      ifB x6.2 (
        atI t1 (1 : Int) fun x13 =>
        some ((Jd.mk false (Tm.mk x10.kind x10.i x10.j x10.n x10.kids) (Tm.mk (0 : Int) (0 : Int) (0 : Int) (0 : Int) ([] : List Tm)) (Tm.mk x11.kind x11.i x11.j x11.n x11.kids) x12), (!x13.eq))) (
        some ((Jd.mk false (Tm.mk x10.kind x10.i x10.j x10.n x10.kids) (Tm.mk (0 : Int) (0 : Int) (0 : Int) (0 : Int) ([] : List Tm)) (Tm.mk x11.kind x11.i x11.j x11.n x11.kids) x12), false))) (
      ifB (decide (t27 = (5 : Int))) (
        (f163 t6 (3 : Int)).bind fun x14 =>
        ifB (!x14.2) (
          some ((Jd.mk false (Tm.mk (0 : Int) (0 : Int) (0 : Int) (0 : Int) ([] : List Tm)) (Tm.mk (0 : Int) (0 : Int) (0 : Int) (0 : Int) ([] : List Tm)) (Tm.mk (0 : Int) (0 : Int) (0 : Int) (0 : Int) ([] : List Tm)) (0 : Int)), false)) (
          atI t1 (1 : Int) fun x15 =>
          (f157 n x15 false x14.1.a x14.1.i).bind fun x16 =>
          ifB (!x16) (
            some ((Jd.mk false (Tm.mk (0 : Int) (0 : Int) (0 : Int) (0 : Int) ([] : List Tm)) (Tm.mk (0 : Int) (0 : Int) (0 : Int) (0 : Int) ([] : List Tm)) (Tm.mk (0 : Int) (0 : Int) (0 : Int) (0 : Int) ([] : List Tm)) (0 : Int)), false)) (
            k3 t1 t4_0 t4_1 t4_2 t4_3 t4_4 t4_6 t4_7 t4_8 t4_9 t4_11 t4_12 t4_13 t4_14 t4_16 t6 x14.1))) (
        ifB (decide (t27 = (7 : Int))) (
          (f164 n t1).bind fun x17 =>
          (f161 x17.1 (6 : Int) ([] : List Tm)).bind fun x18 =>
          (f162 x17.1).bind fun x19 =>
          some ((Jd.mk false (Tm.mk x17.2.1.kind x17.2.1.i x17.2.1.j x17.2.1.n x17.2.1.kids) (Tm.mk (0 : Int) (0 : Int) (0 : Int) (0 : Int) ([] : List Tm)) (Tm.mk x18.kind x18.i x18.j x18.n x18.kids) x19), x17.2.2)) (
          ifB (decide (t27 = (8 : Int))) (
            k4 t0 t1 t4_0 t4_1 t4_2 t4_3 t4_4 t4_6 t4_7 t4_8 t4_9 t4_11 t4_12 t4_13 t4_14 t4_16 t6 t27 (decide (t27 = (8 : Int)))) (
            k4 t0 t1 t4_0 t4_1 t4_2 t4_3 t4_4 t4_6 t4_7 t4_8 t4_9 t4_11 t4_12 t4_13 t4_14 t4_16 t6 t27 (decide (t27 = (9 : Int))))))))
def o146_2 (n : Nat) (t4_0 : Bool) (t4_1 : Int) (t4_2 : Int) (t4_3 : Int) (t4_4 : Int) (t4_6 : Int) (t4_7 : Int) (t4_8 : Int) (t4_9 : Int) (t4_11 : Int) (t4_12 : Int) (t4_13 : Int) (t4_14 : Int) (t4_16 : Int) (t8 : Bool) (t10 : Bool) (t11_0 : Int) (t11_1 : Int) (t11_2 : Int) (t11_3 : Int) (t11_4 : Int) (t11_5 : Int) (t11_6 : List Tm) (t11_7 : Int) (t11_8 : Int) (t11_9 : Int) (t11_10 : Int) (t11_11 : List Tm) (t12 : Int) : Option (Jd × Bool) :=
  (f161 (Fm.mk t11_0 t11_1 (Tm.mk t11_2 t11_3 t11_4 t11_5 t11_6) (Tm.mk t11_7 t11_8 t11_9 t11_10 t11_11)) t12 ([] : List Tm)).bind fun x20 =>
  (f162 (Fm.mk t11_0 t11_1 (Tm.mk t11_2 t11_3 t11_4 t11_5 t11_6) (Tm.mk t11_7 t11_8 t11_9 t11_10 t11_11))).bind fun x21 =>
  (f142 x21).bind fun x22 =>
  (f162 (Fm.mk t11_0 t11_1 (Tm.mk t11_2 t11_3 t11_4 t11_5 t11_6) (Tm.mk t11_7 t11_8 t11_9 t11_10 t11_11))).bind fun x23 =>
  ckI (x23 + (1 : Int)) <|
  ifB t8 (
    some ((Jd.mk false (Tm.mk x20.kind x20.i x20.j x20.n x20.kids) (Tm.mk (0 : Int) (0 : Int) (0 : Int) (0 : Int) ([] : List Tm)) (Tm.mk x22.kind x22.i x22.j x22.n x22.kids) (x23 + (1 : Int))), t10)) (
    some ((Jd.mk false (Tm.mk x20.kind x20.i x20.j x20.n x20.kids) (Tm.mk (0 : Int) (0 : Int) (0 : Int) (0 : Int) ([] : List Tm)) (Tm.mk x22.kind x22.i x22.j x22.n x22.kids) (x23 + (1 : Int))), false))
def o146_3 (n : Nat) (t1 : List Jd) (t4_0 : Bool) (t4_1 : Int) (t4_2 : Int) (t4_3 : Int) (t4_4 : Int) (t4_6 : Int) (t4_7 : Int) (t4_8 : Int) (t4_9 : Int) (t4_11 : Int) (t4_12 : Int) (t4_13 : Int) (t4_14 : Int) (t4_16 : Int) (t6 : Jd) (t16 : Fm) : Option (Jd × Bool) :=
  atI t1 (1 : Int) fun x24 =>
  (f161 t16 (5 : Int) [(Tm.mk t6.u.kind t6.u.i t6.u.j t6.u.n t6.u.kids), (Tm.mk x24.u.kind x24.u.i x24.u.j x24.u.n x24.u.kids)]).bind fun x25 =>
  atI t1 (1 : Int) fun x26 =>
  (f36 n t16.b x26.u).bind fun x27 =>
  some ((Jd.mk false (Tm.mk x25.kind x25.i x25.j x25.n x25.kids) (Tm.mk (0 : Int) (0 : Int) (0 : Int) (0 : Int) ([] : List Tm)) (Tm.mk x27.kind x27.i x27.j x27.n x27.kids) t16.j), true)
def o146_4 (n : Nat) (k5 : (List Jd) → Bool → Int → Int → Int → Int → Int → Int → Int → Int → Int → Int → Int → Int → Int → Jd → Bool → Option (Jd × Bool)) (t0 : Int) (t1 : List Jd) (t4_0 : Bool) (t4_1 : Int) (t4_2 : Int) (t4_3 : Int) (t4_4 : Int) (t4_6 : Int) (t4_7 : Int) (t4_8 : Int) (t4_9 : Int) (t4_11 : Int) (t4_12 : Int) (t4_13 : Int) (t4_14 : Int) (t4_16 : Int) (t6 : Jd) (t27 : Int) (t162 : Bool) : Option (Jd × Bool) :=
  ifB t162 (
    (f163 t6 (6 : Int)).bind fun x28 =>
    ifB (!x28.2) (
      some ((Jd.mk false (Tm.mk (0 : Int) (0 : Int) (0 : Int) (0 : Int) ([] : List Tm)) (Tm.mk (0 : Int) (0 : Int) (0 : Int) (0 : Int) ([] : List Tm)) (Tm.mk (0 : Int) (0 : Int) (0 : Int) (0 : Int) ([] : List Tm)) (0 : Int)), false)) (
      ifB (decide (t0 = (8 : Int))) (
        (f161 x28.1 (8 : Int) [(Tm.mk t6.u.kind t6.u.i t6.u.j t6.u.n t6.u.kids)]).bind fun x29 =>
        some ((Jd.mk false (Tm.mk x29.kind x29.i x29.j x29.n x29.kids) (Tm.mk (0 : Int) (0 : Int) (0 : Int) (0 : Int) ([] : List Tm)) (Tm.mk x28.1.a.kind x28.1.a.i x28.1.a.j x28.1.a.n x28.1.a.kids) x28.1.i), true)) (
        (f161 x28.1 (9 : Int) [(Tm.mk t6.u.kind t6.u.i t6.u.j t6.u.n t6.u.kids)]).bind fun x30 =>
        (f161 x28.1 (8 : Int) [(Tm.mk t6.u.kind t6.u.i t6.u.j t6.u.n t6.u.kids)]).bind fun x31 =>
        (f36 n x28.1.b x31).bind fun x32 =>
        some ((Jd.mk false (Tm.mk x30.kind x30.i x30.j x30.n x30.kids) (Tm.mk (0 : Int) (0 : Int) (0 : Int) (0 : Int) ([] : List Tm)) (Tm.mk x32.kind x32.i x32.j x32.n x32.kids) x28.1.j), true)))) (
    ifB (decide (t27 = (10 : Int))) (
      ifB (!t6.eq) (
        atI t1 (1 : Int) fun x33 =>
        (f157 n x33 false t6.a t6.i).bind fun x34 =>
        k5 t1 t4_0 t4_1 t4_2 t4_3 t4_4 t4_6 t4_7 t4_8 t4_9 t4_11 t4_12 t4_13 t4_14 t4_16 t6 x34) (
        k5 t1 t4_0 t4_1 t4_2 t4_3 t4_4 t4_6 t4_7 t4_8 t4_9 t4_11 t4_12 t4_13 t4_14 t4_16 t6 false)) (
      ifB (decide (t27 = (11 : Int))) (
        (f127 (11 : Int) t6.i (0 : Int) (0 : Int) [(Tm.mk t6.a.kind t6.a.i t6.a.j t6.a.n t6.a.kids), (Tm.mk t6.u.kind t6.u.i t6.u.j t6.u.n t6.u.kids)]).bind fun x35 =>
        (f127 (10 : Int) t6.i (0 : Int) (0 : Int) [(Tm.mk t6.a.kind t6.a.i t6.a.j t6.a.n t6.a.kids), (Tm.mk t6.u.kind t6.u.i t6.u.j t6.u.n t6.u.kids), (Tm.mk t6.u.kind t6.u.i t6.u.j t6.u.n t6.u.kids)]).bind fun x36 =>
        some ((Jd.mk false (Tm.mk x35.kind x35.i x35.j x35.n x35.kids) (Tm.mk (0 : Int) (0 : Int) (0 : Int) (0 : Int) ([] : List Tm)) (Tm.mk x36.kind x36.i x36.j x36.n x36.kids) t6.i), (!t6.eq))) (
        ifB (decide (t27 = (12 : Int))) (
          atI t1 (1 : Int) fun x37 =>
          ifB (!t6.eq) (
            atI t1 (1 : Int) fun x38 =>
            (f158 n t6 x38).bind fun x39 =>
            some ((Jd.mk false (Tm.mk t6.u.kind t6.u.i t6.u.j t6.u.n t6.u.kids) (Tm.mk (0 : Int) (0 : Int) (0 : Int) (0 : Int) ([] : List Tm)) (Tm.mk x37.v.kind x37.v.i x37.v.j x37.v.n x37.v.kids) t6.i), x39)) (
            some ((Jd.mk false (Tm.mk t6.u.kind t6.u.i t6.u.j t6.u.n t6.u.kids) (Tm.mk (0 : Int) (0 : Int) (0 : Int) (0 : Int) ([] : List Tm)) (Tm.mk x37.v.kind x37.v.i x37.v.j x37.v.n x37.v.kids) t6.i), false))) (
          some ((Jd.mk false (Tm.mk (0 : Int) (0 : Int) (0 : Int) (0 : Int) ([] : List Tm)) (Tm.mk (0 : Int) (0 : Int) (0 : Int) (0 : Int) ([] : List Tm)) (Tm.mk (0 : Int) (0 : Int) (0 : Int) (0 : Int) ([] : List Tm)) (0 : Int)), false)))))
def o146_5 (n : Nat) (t1 : List Jd) (t4_0 : Bool) (t4_1 : Int) (t4_2 : Int) (t4_3 : Int) (t4_4 : Int) (t4_6 : Int) (t4_7 : Int) (t4_8 : Int) (t4_9 : Int) (t4_11 : Int) (t4_12 : Int) (t4_13 : Int) (t4_14 : Int) (t4_16 : Int) (t6 : Jd) (t23 : Bool) : Option (Jd × Bool) :=
  atI t1 (1 : Int) fun x40 =>
  (f127 (10 : Int) t6.i (0 : Int) (0 : Int) [(Tm.mk t6.a.kind t6.a.i t6.a.j t6.a.n t6.a.kids), (Tm.mk t6.u.kind t6.u.i t6.u.j t6.u.n t6.u.kids), (Tm.mk x40.u.kind x40.u.i x40.u.j x40.u.n x40.u.kids)]).bind fun x41 =>
  (f142 t6.i).bind fun x42 =>
  ckI (t6.i + (1 : Int)) <|
  some ((Jd.mk false (Tm.mk x41.kind x41.i x41.j x41.n x41.kids) (Tm.mk (0 : Int) (0 : Int) (0 : Int) (0 : Int) ([] : List Tm)) (Tm.mk x42.kind x42.i x42.j x42.n x42.kids) (t6.i + (1 : Int))), t23)
def c146_2 (n : Nat) (t4_0 : Bool) (t4_1 : Int) (t4_2 : Int) (t4_3 : Int) (t4_4 : Int) (t4_6 : Int) (t4_7 : Int) (t4_8 : Int) (t4_9 : Int) (t4_11 : Int) (t4_12 : Int) (t4_13 : Int) (t4_14 : Int) (t4_16 : Int) (t8 : Bool) (t10 : Bool) (t11_0 : Int) (t11_1 : Int) (t11_2 : Int) (t11_3 : Int) (t11_4 : Int) (t11_5 : Int) (t11_6 : List Tm) (t11_7 : Int) (t11_8 : Int) (t11_9 : Int) (t11_10 : Int) (t11_11 : List Tm) (t12 : Int) : Option (Jd × Bool) :=
  o146_2 n t4_0 t4_1 t4_2 t4_3 t4_4 t4_6 t4_7 t4_8 t4_9 t4_11 t4_12 t4_13 t4_14 t4_16 t8 t10 t11_0 t11_1 t11_2 t11_3 t11_4 t11_5 t11_6 t11_7 t11_8 t11_9 t11_10 t11_11 t12
def c146_3 (n : Nat) (t1 : List Jd) (t4_0 : Bool) (t4_1 : Int) (t4_2 : Int) (t4_3 : Int) (t4_4 : Int) (t4_6 : Int) (t4_7 : Int) (t4_8 : Int) (t4_9 : Int) (t4_11 : Int) (t4_12 : Int) (t4_13 : Int) (t4_14 : Int) (t4_16 : Int) (t6 : Jd) (t16 : Fm) : Option (Jd × Bool) :=
  o146_3 n t1 t4_0 t4_1 t4_2 t4_3 t4_4 t4_6 t4_7 t4_8 t4_9 t4_11 t4_12 t4_13 t4_14 t4_16 t6 t16
def c146_5 (n : Nat) (t1 : List Jd) (t4_0 : Bool) (t4_1 : Int) (t4_2 : Int) (t4_3 : Int) (t4_4 : Int) (t4_6 : Int) (t4_7 : Int) (t4_8 : Int) (t4_9 : Int) (t4_11 : Int) (t4_12 : Int) (t4_13 : Int) (t4_14 : Int) (t4_16 : Int) (t6 : Jd) (t23 : Bool) : Option (Jd × Bool) :=
  o146_5 n t1 t4_0 t4_1 t4_2 t4_3 t4_4 t4_6 t4_7 t4_8 t4_9 t4_11 t4_12 t4_13 t4_14 t4_16 t6 t23
def c146_4 (n : Nat) (t0 : Int) (t1 : List Jd) (t4_0 : Bool) (t4_1 : Int) (t4_2 : Int) (t4_3 : Int) (t4_4 : Int) (t4_6 : Int) (t4_7 : Int) (t4_8 : Int) (t4_9 : Int) (t4_11 : Int) (t4_12 : Int) (t4_13 : Int) (t4_14 : Int) (t4_16 : Int) (t6 : Jd) (t27 : Int) (t162 : Bool) : Option (Jd × Bool) :=
  o146_4 n (c146_5 n) t0 t1 t4_0 t4_1 t4_2 t4_3 t4_4 t4_6 t4_7 t4_8 t4_9 t4_11 t4_12 t4_13 t4_14 t4_16 t6 t27 t162
def c146_1 (n : Nat) (t0 : Int) (t1 : List Jd) (t4_0 : Bool) (t4_1 : Int) (t4_2 : Int) (t4_3 : Int) (t4_4 : Int) (t4_6 : Int) (t4_7 : Int) (t4_8 : Int) (t4_9 : Int) (t4_11 : Int) (t4_12 : Int) (t4_13 : Int) (t4_14 : Int) (t4_16 : Int) (t6 : Jd) (t27 : Int) (t28 : Bool) : Option (Jd × Bool) :=
  o146_1 n (c146_2 n) (c146_3 n) (c146_4 n) t0 t1 t4_0 t4_1 t4_2 t4_3 t4_4 t4_6 t4_7 t4_8 t4_9 t4_11 t4_12 t4_13 t4_14 t4_16 t6 t27 t28
def f146 (n : Nat) (a0 : Int) (a1 : List Jd) : Option (Jd × Bool) := o146_0 n (c146_1 n) a0 a1
def an146 : An := (.n none [] 0 .z (.n none [] 0 .z (.n none [] 0 (.n none [] 0 .z (.n none [] 0 (.n (some 1) [(0, .one .c), (1, .one (.d .jd false)), (4, .p 0 [.c, .c, .c, .c, .c, .k, .c, .c, .c, .c, .k, .c, .c, .c, .c, .k, .c]), (6, .ps 1 .jd false), (27, .one .c), (28, .one .c)] 2 .z (.n none [] 0 (.n none [] 0 .z (.n none [] 0 .z (.n none [] 0 .z (.n none [] 0 .z (.n (some 2) [(4, .p 0 [.c, .c, .c, .c, .c, .k, .c, .c, .c, .c, .k, .c, .c, .c, .c, .k, .c]), (8, .one .c), (10, .one .c), (11, .p 1 [.c, .c, .c, .c, .c, .c, .d .tm false, .c, .c, .c, .c, .d .tm false]), (12, .one .c)] 2 .z .z))))) (.n none [] 0 .z (.n none [] 0 .z (.n none [] 0 .z (.n none [] 0 (.n none [] 0 .z (.n (some 3) [(1, .one (.d .jd false)), (4, .p 0 [.c, .c, .c, .c, .c, .k, .c, .c, .c, .c, .k, .c, .c, .c, .c, .k, .c]), (6, .ps 1 .jd false), (16, .ps 2 .fm false)] 3 .z .z)) (.n none [] 0 .z (.n none [] 0 .z (.n (some 4) [(0, .one .c), (1, .one (.d .jd false)), (4, .p 0 [.c, .c, .c, .c, .c, .k, .c, .c, .c, .c, .k, .c, .c, .c, .c, .k, .c]), (6, .ps 1 .jd false), (27, .one .c), (162, .one .c)] 2 .z (.n none [] 0 .z (.n none [] 0 .z (.n none [] 0 (.n (some 5) [(1, .one (.d .jd false)), (4, .p 0 [.c, .c, .c, .c, .c, .k, .c, .c, .c, .c, .k, .c, .c, .c, .c, .k, .c]), (6, .ps 1 .jd false), (23, .one .c)] 2 .z .z) .z)))))))))))) .z)) .z)))
def F146 : Fn := { f := 146, a := an146, vars := [.cell 4 49, .tmp 5], ps := [.sc .int, .sl .jd], rs := [.st .jd, .sc .bool], own := false, fr := false, nt := 284, D := 7, loops := [] }
def cs146 (n : Nat) : List Cal := [⟨36, [.st .tm, .st .tm], [.st .tm], true, fun a => f36 n a.1 a.2.1⟩, ⟨127, [.sc .int, .sc .int, .sc .int, .sc .int, .sl .tm], [.st .tm], false, fun a => f127 a.1 a.2.1 a.2.2.1 a.2.2.2.1 a.2.2.2.2.1⟩, ⟨139, [.st .jd, .sc .bool], [.sc .int, .sc .bool], true, fun a => f139 a.1 a.2.1⟩, ⟨142, [.sc .int], [.st .tm], true, fun a => f142 a.1⟩, ⟨157, [.st .jd, .sc .bool, .st .tm, .sc .int], [.sc .bool], true, fun a => f157 n a.1 a.2.1 a.2.2.1 a.2.2.2.1⟩, ⟨158, [.st .jd, .st .jd], [.sc .bool], true, fun a => f158 n a.1 a.2.1⟩, ⟨161, [.st .fm, .sc .int, .sl .tm], [.st .tm], false, fun a => f161 a.1 a.2.1 a.2.2.1⟩, ⟨162, [.st .fm], [.sc .int], true, fun a => f162 a.1⟩, ⟨163, [.st .jd, .sc .int], [.st .fm, .sc .bool], false, fun a => f163 a.1 a.2.1⟩, ⟨164, [.sl .jd], [.st .fm, .st .tm, .sc .bool], false, fun a => f164 n a.1⟩]
def st146_1 (t0 : Int) (t1 : List Jd) (t4_0 : Bool) (t4_1 : Int) (t4_2 : Int) (t4_3 : Int) (t4_4 : Int) (t4_6 : Int) (t4_7 : Int) (t4_8 : Int) (t4_9 : Int) (t4_11 : Int) (t4_12 : Int) (t4_13 : Int) (t4_14 : Int) (t4_16 : Int) (t6 : Jd) (t27 : Int) (t28 : Bool) : SS := ⟨[(0, .v (.one (.c (.int t0) true))), (1, .v (.one (.c (.sl .jd t1) false))), (4, .v (.one (.ptr 0 0))), (6, .v (.one (.ptr 1 0))), (27, .v (.one (.c (.int t27) true))), (28, .v (.one (.c (.bool t28) true)))], [(0, some (.box [.c (.bool t4_0) true, .c (.int t4_1) true, .c (.int t4_2) true, .c (.int t4_3) true, .c (.int t4_4) true, .nils, .c (.int t4_6) true, .c (.int t4_7) true, .c (.int t4_8) true, .c (.int t4_9) true, .nils, .c (.int t4_11) true, .c (.int t4_12) true, .c (.int t4_13) true, .c (.int t4_14) true, .nils, .c (.int t4_16) true])), (1, some (.bst .jd t6 false))], 2⟩
def st146_2 (t4_0 : Bool) (t4_1 : Int) (t4_2 : Int) (t4_3 : Int) (t4_4 : Int) (t4_6 : Int) (t4_7 : Int) (t4_8 : Int) (t4_9 : Int) (t4_11 : Int) (t4_12 : Int) (t4_13 : Int) (t4_14 : Int) (t4_16 : Int) (t8 : Bool) (t10 : Bool) (t11_0 : Int) (t11_1 : Int) (t11_2 : Int) (t11_3 : Int) (t11_4 : Int) (t11_5 : Int) (t11_6 : List Tm) (t11_7 : Int) (t11_8 : Int) (t11_9 : Int) (t11_10 : Int) (t11_11 : List Tm) (t12 : Int) : SS := ⟨[(4, .v (.one (.ptr 0 0))), (8, .v (.one (.c (.bool t8) true))), (10, .v (.one (.c (.bool t10) true))), (11, .v (.one (.ptr 1 0))), (12, .v (.one (.c (.int t12) true)))], [(0, some (.box [.c (.bool t4_0) true, .c (.int t4_1) true, .c (.int t4_2) true, .c (.int t4_3) true, .c (.int t4_4) true, .nils, .c (.int t4_6) true, .c (.int t4_7) true, .c (.int t4_8) true, .c (.int t4_9) true, .nils, .c (.int t4_11) true, .c (.int t4_12) true, .c (.int t4_13) true, .c (.int t4_14) true, .nils, .c (.int t4_16) true])), (1, some (.box [.c (.int t11_0) true, .c (.int t11_1) true, .c (.int t11_2) true, .c (.int t11_3) true, .c (.int t11_4) true, .c (.int t11_5) true, .c (.sl .tm t11_6) false, .c (.int t11_7) true, .c (.int t11_8) true, .c (.int t11_9) true, .c (.int t11_10) true, .c (.sl .tm t11_11) false]))], 2⟩
def st146_3 (t1 : List Jd) (t4_0 : Bool) (t4_1 : Int) (t4_2 : Int) (t4_3 : Int) (t4_4 : Int) (t4_6 : Int) (t4_7 : Int) (t4_8 : Int) (t4_9 : Int) (t4_11 : Int) (t4_12 : Int) (t4_13 : Int) (t4_14 : Int) (t4_16 : Int) (t6 : Jd) (t16 : Fm) : SS := ⟨[(1, .v (.one (.c (.sl .jd t1) false))), (4, .v (.one (.ptr 0 0))), (6, .v (.one (.ptr 1 0))), (16, .v (.one (.ptr 2 0)))], [(0, some (.box [.c (.bool t4_0) true, .c (.int t4_1) true, .c (.int t4_2) true, .c (.int t4_3) true, .c (.int t4_4) true, .nils, .c (.int t4_6) true, .c (.int t4_7) true, .c (.int t4_8) true, .c (.int t4_9) true, .nils, .c (.int t4_11) true, .c (.int t4_12) true, .c (.int t4_13) true, .c (.int t4_14) true, .nils, .c (.int t4_16) true])), (1, some (.bst .jd t6 false)), (2, some (.bst .fm t16 false))], 3⟩
def st146_4 (t0 : Int) (t1 : List Jd) (t4_0 : Bool) (t4_1 : Int) (t4_2 : Int) (t4_3 : Int) (t4_4 : Int) (t4_6 : Int) (t4_7 : Int) (t4_8 : Int) (t4_9 : Int) (t4_11 : Int) (t4_12 : Int) (t4_13 : Int) (t4_14 : Int) (t4_16 : Int) (t6 : Jd) (t27 : Int) (t162 : Bool) : SS := ⟨[(0, .v (.one (.c (.int t0) true))), (1, .v (.one (.c (.sl .jd t1) false))), (4, .v (.one (.ptr 0 0))), (6, .v (.one (.ptr 1 0))), (27, .v (.one (.c (.int t27) true))), (162, .v (.one (.c (.bool t162) true)))], [(0, some (.box [.c (.bool t4_0) true, .c (.int t4_1) true, .c (.int t4_2) true, .c (.int t4_3) true, .c (.int t4_4) true, .nils, .c (.int t4_6) true, .c (.int t4_7) true, .c (.int t4_8) true, .c (.int t4_9) true, .nils, .c (.int t4_11) true, .c (.int t4_12) true, .c (.int t4_13) true, .c (.int t4_14) true, .nils, .c (.int t4_16) true])), (1, some (.bst .jd t6 false))], 2⟩
def st146_5 (t1 : List Jd) (t4_0 : Bool) (t4_1 : Int) (t4_2 : Int) (t4_3 : Int) (t4_4 : Int) (t4_6 : Int) (t4_7 : Int) (t4_8 : Int) (t4_9 : Int) (t4_11 : Int) (t4_12 : Int) (t4_13 : Int) (t4_14 : Int) (t4_16 : Int) (t6 : Jd) (t23 : Bool) : SS := ⟨[(1, .v (.one (.c (.sl .jd t1) false))), (4, .v (.one (.ptr 0 0))), (6, .v (.one (.ptr 1 0))), (23, .v (.one (.c (.bool t23) true)))], [(0, some (.box [.c (.bool t4_0) true, .c (.int t4_1) true, .c (.int t4_2) true, .c (.int t4_3) true, .c (.int t4_4) true, .nils, .c (.int t4_6) true, .c (.int t4_7) true, .c (.int t4_8) true, .c (.int t4_9) true, .nils, .c (.int t4_11) true, .c (.int t4_12) true, .c (.int t4_13) true, .c (.int t4_14) true, .nils, .c (.int t4_16) true])), (1, some (.bst .jd t6 false))], 2⟩
theorem p146_0 (n : Nat) (lab : Nat → SS → Option (RT.den F146.rs)) (x : PTs.den F146.ps) : F146.body (bodyOf Try.f146) tabR tyR true (cs146 n) lab x = o146_0 n (fun t0 t1 t4_0 t4_1 t4_2 t4_3 t4_4 t4_6 t4_7 t4_8 t4_9 t4_11 t4_12 t4_13 t4_14 t4_16 t6 t27 t28 => lab 1 (st146_1 t0 t1 t4_0 t4_1 t4_2 t4_3 t4_4 t4_6 t4_7 t4_8 t4_9 t4_11 t4_12 t4_13 t4_14 t4_16 t6 t27 t28)) x.1 x.2.1 := by kernel_rfl
theorem p146_1 (n : Nat) (lab : Nat → SS → Option (RT.den F146.rs)) (t0 : Int) (t1 : List Jd) (t4_0 : Bool) (t4_1 : Int) (t4_2 : Int) (t4_3 : Int) (t4_4 : Int) (t4_6 : Int) (t4_7 : Int) (t4_8 : Int) (t4_9 : Int) (t4_11 : Int) (t4_12 : Int) (t4_13 : Int) (t4_14 : Int) (t4_16 : Int) (t6 : Jd) (t27 : Int) (t28 : Bool) : F146.at (bodyOf Try.f146) tabR tyR true (cs146 n) lab 1 (st146_1 t0 t1 t4_0 t4_1 t4_2 t4_3 t4_4 t4_6 t4_7 t4_8 t4_9 t4_11 t4_12 t4_13 t4_14 t4_16 t6 t27 t28) = o146_1 n (fun t4_0 t4_1 t4_2 t4_3 t4_4 t4_6 t4_7 t4_8 t4_9 t4_11 t4_12 t4_13 t4_14 t4_16 t8 t10 t11_0 t11_1 t11_2 t11_3 t11_4 t11_5 t11_6 t11_7 t11_8 t11_9 t11_10 t11_11 t12 => lab 2 (st146_2 t4_0 t4_1 t4_2 t4_3 t4_4 t4_6 t4_7 t4_8 t4_9 t4_11 t4_12 t4_13 t4_14 t4_16 t8 t10 t11_0 t11_1 t11_2 t11_3 t11_4 t11_5 t11_6 t11_7 t11_8 t11_9 t11_10 t11_11 t12)) (fun t1 t4_0 t4_1 t4_2 t4_3 t4_4 t4_6 t4_7 t4_8 t4_9 t4_11 t4_12 t4_13 t4_14 t4_16 t6 t16 => lab 3 (st146_3 t1 t4_0 t4_1 t4_2 t4_3 t4_4 t4_6 t4_7 t4_8 t4_9 t4_11 t4_12 t4_13 t4_14 t4_16 t6 t16)) (fun t0 t1 t4_0 t4_1 t4_2 t4_3 t4_4 t4_6 t4_7 t4_8 t4_9 t4_11 t4_12 t4_13 t4_14 t4_16 t6 t27 t162 => lab 4 (st146_4 t0 t1 t4_0 t4_1 t4_2 t4_3 t4_4 t4_6 t4_7 t4_8 t4_9 t4_11 t4_12 t4_13 t4_14 t4_16 t6 t27 t162)) t0 t1 t4_0 t4_1 t4_2 t4_3 t4_4 t4_6 t4_7 t4_8 t4_9 t4_11 t4_12 t4_13 t4_14 t4_16 t6 t27 t28 := by kernel_rfl
theorem p146_2 (n : Nat) (lab : Nat → SS → Option (RT.den F146.rs)) (t4_0 : Bool) (t4_1 : Int) (t4_2 : Int) (t4_3 : Int) (t4_4 : Int) (t4_6 : Int) (t4_7 : Int) (t4_8 : Int) (t4_9 : Int) (t4_11 : Int) (t4_12 : Int) (t4_13 : Int) (t4_14 : Int) (t4_16 : Int) (t8 : Bool) (t10 : Bool) (t11_0 : Int) (t11_1 : Int) (t11_2 : Int) (t11_3 : Int) (t11_4 : Int) (t11_5 : Int) (t11_6 : List Tm) (t11_7 : Int) (t11_8 : Int) (t11_9 : Int) (t11_10 : Int) (t11_11 : List Tm) (t12 : Int) : F146.at (bodyOf Try.f146) tabR tyR true (cs146 n) lab 2 (st146_2 t4_0 t4_1 t4_2 t4_3 t4_4 t4_6 t4_7 t4_8 t4_9 t4_11 t4_12 t4_13 t4_14 t4_16 t8 t10 t11_0 t11_1 t11_2 t11_3 t11_4 t11_5 t11_6 t11_7 t11_8 t11_9 t11_10 t11_11 t12) = o146_2 n t4_0 t4_1 t4_2 t4_3 t4_4 t4_6 t4_7 t4_8 t4_9 t4_11 t4_12 t4_13 t4_14 t4_16 t8 t10 t11_0 t11_1 t11_2 t11_3 t11_4 t11_5 t11_6 t11_7 t11_8 t11_9 t11_10 t11_11 t12 := by kernel_rfl
theorem p146_3 (n : Nat) (lab : Nat → SS → Option (RT.den F146.rs)) (t1 : List Jd) (t4_0 : Bool) (t4_1 : Int) (t4_2 : Int) (t4_3 : Int) (t4_4 : Int) (t4_6 : Int) (t4_7 : Int) (t4_8 : Int) (t4_9 : Int) (t4_11 : Int) (t4_12 : Int) (t4_13 : Int) (t4_14 : Int) (t4_16 : Int) (t6 : Jd) (t16 : Fm) : F146.at (bodyOf Try.f146) tabR tyR true (cs146 n) lab 3 (st146_3 t1 t4_0 t4_1 t4_2 t4_3 t4_4 t4_6 t4_7 t4_8 t4_9 t4_11 t4_12 t4_13 t4_14 t4_16 t6 t16) = o146_3 n t1 t4_0 t4_1 t4_2 t4_3 t4_4 t4_6 t4_7 t4_8 t4_9 t4_11 t4_12 t4_13 t4_14 t4_16 t6 t16 := by kernel_rfl
theorem p146_4 (n : Nat) (lab : Nat → SS → Option (RT.den F146.rs)) (t0 : Int) (t1 : List Jd) (t4_0 : Bool) (t4_1 : Int) (t4_2 : Int) (t4_3 : Int) (t4_4 : Int) (t4_6 : Int) (t4_7 : Int) (t4_8 : Int) (t4_9 : Int) (t4_11 : Int) (t4_12 : Int) (t4_13 : Int) (t4_14 : Int) (t4_16 : Int) (t6 : Jd) (t27 : Int) (t162 : Bool) : F146.at (bodyOf Try.f146) tabR tyR true (cs146 n) lab 4 (st146_4 t0 t1 t4_0 t4_1 t4_2 t4_3 t4_4 t4_6 t4_7 t4_8 t4_9 t4_11 t4_12 t4_13 t4_14 t4_16 t6 t27 t162) = o146_4 n (fun t1 t4_0 t4_1 t4_2 t4_3 t4_4 t4_6 t4_7 t4_8 t4_9 t4_11 t4_12 t4_13 t4_14 t4_16 t6 t23 => lab 5 (st146_5 t1 t4_0 t4_1 t4_2 t4_3 t4_4 t4_6 t4_7 t4_8 t4_9 t4_11 t4_12 t4_13 t4_14 t4_16 t6 t23)) t0 t1 t4_0 t4_1 t4_2 t4_3 t4_4 t4_6 t4_7 t4_8 t4_9 t4_11 t4_12 t4_13 t4_14 t4_16 t6 t27 t162 := by kernel_rfl
theorem p146_5 (n : Nat) (lab : Nat → SS → Option (RT.den F146.rs)) (t1 : List Jd) (t4_0 : Bool) (t4_1 : Int) (t4_2 : Int) (t4_3 : Int) (t4_4 : Int) (t4_6 : Int) (t4_7 : Int) (t4_8 : Int) (t4_9 : Int) (t4_11 : Int) (t4_12 : Int) (t4_13 : Int) (t4_14 : Int) (t4_16 : Int) (t6 : Jd) (t23 : Bool) : F146.at (bodyOf Try.f146) tabR tyR true (cs146 n) lab 5 (st146_5 t1 t4_0 t4_1 t4_2 t4_3 t4_4 t4_6 t4_7 t4_8 t4_9 t4_11 t4_12 t4_13 t4_14 t4_16 t6 t23) = o146_5 n t1 t4_0 t4_1 t4_2 t4_3 t4_4 t4_6 t4_7 t4_8 t4_9 t4_11 t4_12 t4_13 t4_14 t4_16 t6 t23 := by kernel_rfl
theorem n146_2 (n : Nat) (rec : Nat → SS → Option (RT.den F146.rs)) (d : Nat) (t4_0 : Bool) (t4_1 : Int) (t4_2 : Int) (t4_3 : Int) (t4_4 : Int) (t4_6 : Int) (t4_7 : Int) (t4_8 : Int) (t4_9 : Int) (t4_11 : Int) (t4_12 : Int) (t4_13 : Int) (t4_14 : Int) (t4_16 : Int) (t8 : Bool) (t10 : Bool) (t11_0 : Int) (t11_1 : Int) (t11_2 : Int) (t11_3 : Int) (t11_4 : Int) (t11_5 : Int) (t11_6 : List Tm) (t11_7 : Int) (t11_8 : Int) (t11_9 : Int) (t11_10 : Int) (t11_11 : List Tm) (t12 : Int) : F146.labD (bodyOf Try.f146) tabR tyR true (cs146 n) rec (d + 1) 2 (st146_2 t4_0 t4_1 t4_2 t4_3 t4_4 t4_6 t4_7 t4_8 t4_9 t4_11 t4_12 t4_13 t4_14 t4_16 t8 t10 t11_0 t11_1 t11_2 t11_3 t11_4 t11_5 t11_6 t11_7 t11_8 t11_9 t11_10 t11_11 t12) = c146_2 n t4_0 t4_1 t4_2 t4_3 t4_4 t4_6 t4_7 t4_8 t4_9 t4_11 t4_12 t4_13 t4_14 t4_16 t8 t10 t11_0 t11_1 t11_2 t11_3 t11_4 t11_5 t11_6 t11_7 t11_8 t11_9 t11_10 t11_11 t12 := by
  show F146.labD (bodyOf Try.f146) tabR tyR true (cs146 n) rec (d + 1) 2 _ = _
  rw [Fn.labD_succ, p146_2]
  rfl
theorem n146_3 (n : Nat) (rec : Nat → SS → Option (RT.den F146.rs)) (d : Nat) (t1 : List Jd) (t4_0 : Bool) (t4_1 : Int) (t4_2 : Int) (t4_3 : Int) (t4_4 : Int) (t4_6 : Int) (t4_7 : Int) (t4_8 : Int) (t4_9 : Int) (t4_11 : Int) (t4_12 : Int) (t4_13 : Int) (t4_14 : Int) (t4_16 : Int) (t6 : Jd) (t16 : Fm) : F146.labD (bodyOf Try.f146) tabR tyR true (cs146 n) rec (d + 1) 3 (st146_3 t1 t4_0 t4_1 t4_2 t4_3 t4_4 t4_6 t4_7 t4_8 t4_9 t4_11 t4_12 t4_13 t4_14 t4_16 t6 t16) = c146_3 n t1 t4_0 t4_1 t4_2 t4_3 t4_4 t4_6 t4_7 t4_8 t4_9 t4_11 t4_12 t4_13 t4_14 t4_16 t6 t16 := by
  show F146.labD (bodyOf Try.f146) tabR tyR true (cs146 n) rec (d + 1) 3 _ = _
  rw [Fn.labD_succ, p146_3]
  rfl
theorem n146_5 (n : Nat) (rec : Nat → SS → Option (RT.den F146.rs)) (d : Nat) (t1 : List Jd) (t4_0 : Bool) (t4_1 : Int) (t4_2 : Int) (t4_3 : Int) (t4_4 : Int) (t4_6 : Int) (t4_7 : Int) (t4_8 : Int) (t4_9 : Int) (t4_11 : Int) (t4_12 : Int) (t4_13 : Int) (t4_14 : Int) (t4_16 : Int) (t6 : Jd) (t23 : Bool) : F146.labD (bodyOf Try.f146) tabR tyR true (cs146 n) rec (d + 1) 5 (st146_5 t1 t4_0 t4_1 t4_2 t4_3 t4_4 t4_6 t4_7 t4_8 t4_9 t4_11 t4_12 t4_13 t4_14 t4_16 t6 t23) = c146_5 n t1 t4_0 t4_1 t4_2 t4_3 t4_4 t4_6 t4_7 t4_8 t4_9 t4_11 t4_12 t4_13 t4_14 t4_16 t6 t23 := by
  show F146.labD (bodyOf Try.f146) tabR tyR true (cs146 n) rec (d + 1) 5 _ = _
  rw [Fn.labD_succ, p146_5]
  rfl
theorem n146_4 (n : Nat) (rec : Nat → SS → Option (RT.den F146.rs)) (d : Nat) (t0 : Int) (t1 : List Jd) (t4_0 : Bool) (t4_1 : Int) (t4_2 : Int) (t4_3 : Int) (t4_4 : Int) (t4_6 : Int) (t4_7 : Int) (t4_8 : Int) (t4_9 : Int) (t4_11 : Int) (t4_12 : Int) (t4_13 : Int) (t4_14 : Int) (t4_16 : Int) (t6 : Jd) (t27 : Int) (t162 : Bool) : F146.labD (bodyOf Try.f146) tabR tyR true (cs146 n) rec (d + 2) 4 (st146_4 t0 t1 t4_0 t4_1 t4_2 t4_3 t4_4 t4_6 t4_7 t4_8 t4_9 t4_11 t4_12 t4_13 t4_14 t4_16 t6 t27 t162) = c146_4 n t0 t1 t4_0 t4_1 t4_2 t4_3 t4_4 t4_6 t4_7 t4_8 t4_9 t4_11 t4_12 t4_13 t4_14 t4_16 t6 t27 t162 := by
  have e5 : ∀ t1 t4_0 t4_1 t4_2 t4_3 t4_4 t4_6 t4_7 t4_8 t4_9 t4_11 t4_12 t4_13 t4_14 t4_16 t6 t23, F146.labX (bodyOf Try.f146) tabR tyR true (cs146 n) rec (d + 1) 5 (st146_5 t1 t4_0 t4_1 t4_2 t4_3 t4_4 t4_6 t4_7 t4_8 t4_9 t4_11 t4_12 t4_13 t4_14 t4_16 t6 t23) = c146_5 n t1 t4_0 t4_1 t4_2 t4_3 t4_4 t4_6 t4_7 t4_8 t4_9 t4_11 t4_12 t4_13 t4_14 t4_16 t6 t23 := fun t1 t4_0 t4_1 t4_2 t4_3 t4_4 t4_6 t4_7 t4_8 t4_9 t4_11 t4_12 t4_13 t4_14 t4_16 t6 t23 => (Fn.labX_step _ _ _ _ _ _ _ _ _ _ (by kernel_rfl)).trans (n146_5 n rec d t1 t4_0 t4_1 t4_2 t4_3 t4_4 t4_6 t4_7 t4_8 t4_9 t4_11 t4_12 t4_13 t4_14 t4_16 t6 t23)
  show F146.labD (bodyOf Try.f146) tabR tyR true (cs146 n) rec ((d + 1) + 1) 4 _ = _
  rw [Fn.labD_succ, p146_4]
  simp only [e5]
  rfl
theorem n146_1 (n : Nat) (rec : Nat → SS → Option (RT.den F146.rs)) (d : Nat) (t0 : Int) (t1 : List Jd) (t4_0 : Bool) (t4_1 : Int) (t4_2 : Int) (t4_3 : Int) (t4_4 : Int) (t4_6 : Int) (t4_7 : Int) (t4_8 : Int) (t4_9 : Int) (t4_11 : Int) (t4_12 : Int) (t4_13 : Int) (t4_14 : Int) (t4_16 : Int) (t6 : Jd) (t27 : Int) (t28 : Bool) : F146.labD (bodyOf Try.f146) tabR tyR true (cs146 n) rec (d + 3) 1 (st146_1 t0 t1 t4_0 t4_1 t4_2 t4_3 t4_4 t4_6 t4_7 t4_8 t4_9 t4_11 t4_12 t4_13 t4_14 t4_16 t6 t27 t28) = c146_1 n t0 t1 t4_0 t4_1 t4_2 t4_3 t4_4 t4_6 t4_7 t4_8 t4_9 t4_11 t4_12 t4_13 t4_14 t4_16 t6 t27 t28 := by
  have e2 : ∀ t4_0 t4_1 t4_2 t4_3 t4_4 t4_6 t4_7 t4_8 t4_9 t4_11 t4_12 t4_13 t4_14 t4_16 t8 t10 t11_0 t11_1 t11_2 t11_3 t11_4 t11_5 t11_6 t11_7 t11_8 t11_9 t11_10 t11_11 t12, F146.labX (bodyOf Try.f146) tabR tyR true (cs146 n) rec (d + 2) 2 (st146_2 t4_0 t4_1 t4_2 t4_3 t4_4 t4_6 t4_7 t4_8 t4_9 t4_11 t4_12 t4_13 t4_14 t4_16 t8 t10 t11_0 t11_1 t11_2 t11_3 t11_4 t11_5 t11_6 t11_7 t11_8 t11_9 t11_10 t11_11 t12) = c146_2 n t4_0 t4_1 t4_2 t4_3 t4_4 t4_6 t4_7 t4_8 t4_9 t4_11 t4_12 t4_13 t4_14 t4_16 t8 t10 t11_0 t11_1 t11_2 t11_3 t11_4 t11_5 t11_6 t11_7 t11_8 t11_9 t11_10 t11_11 t12 := fun t4_0 t4_1 t4_2 t4_3 t4_4 t4_6 t4_7 t4_8 t4_9 t4_11 t4_12 t4_13 t4_14 t4_16 t8 t10 t11_0 t11_1 t11_2 t11_3 t11_4 t11_5 t11_6 t11_7 t11_8 t11_9 t11_10 t11_11 t12 => (Fn.labX_step _ _ _ _ _ _ _ _ _ _ (by kernel_rfl)).trans (n146_2 n rec (d + 1) t4_0 t4_1 t4_2 t4_3 t4_4 t4_6 t4_7 t4_8 t4_9 t4_11 t4_12 t4_13 t4_14 t4_16 t8 t10 t11_0 t11_1 t11_2 t11_3 t11_4 t11_5 t11_6 t11_7 t11_8 t11_9 t11_10 t11_11 t12)
  have e3 : ∀ t1 t4_0 t4_1 t4_2 t4_3 t4_4 t4_6 t4_7 t4_8 t4_9 t4_11 t4_12 t4_13 t4_14 t4_16 t6 t16, F146.labX (bodyOf Try.f146) tabR tyR true (cs146 n) rec (d + 2) 3 (st146_3 t1 t4_0 t4_1 t4_2 t4_3 t4_4 t4_6 t4_7 t4_8 t4_9 t4_11 t4_12 t4_13 t4_14 t4_16 t6 t16) = c146_3 n t1 t4_0 t4_1 t4_2 t4_3 t4_4 t4_6 t4_7 t4_8 t4_9 t4_11 t4_12 t4_13 t4_14 t4_16 t6 t16 := fun t1 t4_0 t4_1 t4_2 t4_3 t4_4 t4_6 t4_7 t4_8 t4_9 t4_11 t4_12 t4_13 t4_14 t4_16 t6 t16 => (Fn.labX_step _ _ _ _ _ _ _ _ _ _ (by kernel_rfl)).trans (n146_3 n rec (d + 1) t1 t4_0 t4_1 t4_2 t4_3 t4_4 t4_6 t4_7 t4_8 t4_9 t4_11 t4_12 t4_13 t4_14 t4_16 t6 t16)
  have e4 : ∀ t0 t1 t4_0 t4_1 t4_2 t4_3 t4_4 t4_6 t4_7 t4_8 t4_9 t4_11 t4_12 t4_13 t4_14 t4_16 t6 t27 t162, F146.labX (bodyOf Try.f146) tabR tyR true (cs146 n) rec (d + 2) 4 (st146_4 t0 t1 t4_0 t4_1 t4_2 t4_3 t4_4 t4_6 t4_7 t4_8 t4_9 t4_11 t4_12 t4_13 t4_14 t4_16 t6 t27 t162) = c146_4 n t0 t1 t4_0 t4_1 t4_2 t4_3 t4_4 t4_6 t4_7 t4_8 t4_9 t4_11 t4_12 t4_13 t4_14 t4_16 t6 t27 t162 := fun t0 t1 t4_0 t4_1 t4_2 t4_3 t4_4 t4_6 t4_7 t4_8 t4_9 t4_11 t4_12 t4_13 t4_14 t4_16 t6 t27 t162 => (Fn.labX_step _ _ _ _ _ _ _ _ _ _ (by kernel_rfl)).trans (n146_4 n rec d t0 t1 t4_0 t4_1 t4_2 t4_3 t4_4 t4_6 t4_7 t4_8 t4_9 t4_11 t4_12 t4_13 t4_14 t4_16 t6 t27 t162)
  show F146.labD (bodyOf Try.f146) tabR tyR true (cs146 n) rec ((d + 2) + 1) 1 _ = _
  rw [Fn.labD_succ, p146_1]
  simp only [e2, e3, e4]
  rfl
theorem w146 (n : Nat) (x : PTs.den F146.ps) : F146.body (bodyOf Try.f146) tabR tyR true (cs146 n) (F146.labX (bodyOf Try.f146) tabR tyR true (cs146 n) (F146.labM (bodyOf Try.f146) tabR tyR true (cs146 n) 0) F146.D) x = o146_0 n (c146_1 n) x.1 x.2.1 := by
  have e1 : ∀ t0 t1 t4_0 t4_1 t4_2 t4_3 t4_4 t4_6 t4_7 t4_8 t4_9 t4_11 t4_12 t4_13 t4_14 t4_16 t6 t27 t28, F146.labX (bodyOf Try.f146) tabR tyR true (cs146 n) (F146.labM (bodyOf Try.f146) tabR tyR true (cs146 n) 0) 7 1 (st146_1 t0 t1 t4_0 t4_1 t4_2 t4_3 t4_4 t4_6 t4_7 t4_8 t4_9 t4_11 t4_12 t4_13 t4_14 t4_16 t6 t27 t28) = c146_1 n t0 t1 t4_0 t4_1 t4_2 t4_3 t4_4 t4_6 t4_7 t4_8 t4_9 t4_11 t4_12 t4_13 t4_14 t4_16 t6 t27 t28 := fun t0 t1 t4_0 t4_1 t4_2 t4_3 t4_4 t4_6 t4_7 t4_8 t4_9 t4_11 t4_12 t4_13 t4_14 t4_16 t6 t27 t28 => (Fn.labX_step _ _ _ _ _ _ _ _ _ _ (by kernel_rfl)).trans (n146_1 n (F146.labM (bodyOf Try.f146) tabR tyR true (cs146 n) 0) 4 t0 t1 t4_0 t4_1 t4_2 t4_3 t4_4 t4_6 t4_7 t4_8 t4_9 t4_11 t4_12 t4_13 t4_14 t4_16 t6 t27 t28)
  show F146.body (bodyOf Try.f146) tabR tyR true (cs146 n) (F146.labX (bodyOf Try.f146) tabR tyR true (cs146 n) (F146.labM (bodyOf Try.f146) tabR tyR true (cs146 n) 0) 7) x = _
  rw [p146_0]
  simp only [e1]
  try rfl
theorem call146 : Callable Try.prog 146 := callable_of Try.func146 (by kernel_rfl) (by kernel_rfl)
theorem ok146 (n : Nat) : Cal.Ok Try.prog ⟨146, F146.ps, F146.rs, F146.fr, fun a => f146 n a.1 a.2.1⟩ :=
  cal_of_fn F146 (code := bodyOf Try.f146) Try.func146 (by kernel_rfl) (by kernel_rfl) call146 htabR (cs := cs146 n) (fun c hc => by
      simp only [cs146, List.mem_cons, List.not_mem_nil, or_false] at hc
      rcases hc with rfl | rfl | rfl | rfl | rfl | rfl | rfl | rfl | rfl | rfl
      · exact ok36 n
      · exact ok127
      · exact ok139
      · exact ok142
      · exact ok157 n
      · exact ok158 n
      · exact ok161
      · exact ok162
      · exact ok163
      · exact ok164 n) (fun _ => mixed) (by kernel_rfl) (by kernel_rfl) (by decide) (fun x => ⟨0, w146 n x⟩)
-- tranship/rule.conclude
def o116_0 (n : Nat) (a0 : List Ent) (a1 : Int) (a2 : Int) (a3 : List Jd) : Option (Jd × Bool) :=
  ifB (decide (a1 = (1 : Int))) (
    (f142 a2).bind fun x1 =>
    (f142 (wrI (a2 + (1 : Int)))).bind fun x2 =>
    ifB (decide ((0 : Int) ≤ a2)) (
      some ((Jd.mk false (Tm.mk x1.kind x1.i x1.j x1.n x1.kids) (Tm.mk (0 : Int) (0 : Int) (0 : Int) (0 : Int) ([] : List Tm)) (Tm.mk x2.kind x2.i x2.j x2.n x2.kids) (wrI (a2 + (2 : Int)))), (decide (a2 ≤ (900 : Int))))) (
      some ((Jd.mk false (Tm.mk x1.kind x1.i x1.j x1.n x1.kids) (Tm.mk (0 : Int) (0 : Int) (0 : Int) (0 : Int) ([] : List Tm)) (Tm.mk x2.kind x2.i x2.j x2.n x2.kids) (wrI (a2 + (2 : Int)))), false))) (
    ifB (decide (a1 = (2 : Int))) (
      (f39 n a0 a2).bind fun x3 =>
      (f143 a2).bind fun x4 =>
      some ((Jd.mk false (Tm.mk x4.kind x4.i x4.j x4.n x4.kids) (Tm.mk (0 : Int) (0 : Int) (0 : Int) (0 : Int) ([] : List Tm)) (Tm.mk x3.1.kind x3.1.i x3.1.j x3.1.n x3.1.kids) x3.2.1), x3.2.2)) (
      (f144 a1).bind fun x5 =>
      ifB x5 (
        (f145 n a1 a3).bind fun x6 =>
        some (x6.1, x6.2)) (
        (f146 n a1 a3).bind fun x7 =>
        some (x7.1, x7.2))))
def f116 (n : Nat) (a0 : List Ent) (a1 : Int) (a2 : Int) (a3 : List Jd) : Option (Jd × Bool) := o116_0 n a0 a1 a2 a3
def an116 : An := .z
def F116 : Fn := { f := 116, a := an116, vars := [.cell 8 49, .tmp 9], ps := [.sl .ent, .sc .int, .sc .int, .sl .jd], rs := [.st .jd, .sc .bool], own := false, fr := false, nt := 57, D := 2, loops := [] }
def cs116 (n : Nat) : List Cal := [⟨39, [.sl .ent, .sc .int], [.st .tm, .sc .int, .sc .bool], true, fun a => f39 n a.1 a.2.1⟩, ⟨142, [.sc .int], [.st .tm], true, fun a => f142 a.1⟩, ⟨143, [.sc .int], [.st .tm], true, fun a => f143 a.1⟩, ⟨144, [.sc .int], [.sc .bool], true, fun a => f144 a.1⟩, ⟨145, [.sc .int, .sl .jd], [.st .jd, .sc .bool], false, fun a => f145 n a.1 a.2.1⟩, ⟨146, [.sc .int, .sl .jd], [.st .jd, .sc .bool], false, fun a => f146 n a.1 a.2.1⟩]
theorem p116_0 (n : Nat) (lab : Nat → SS → Option (RT.den F116.rs)) (x : PTs.den F116.ps) : F116.body (bodyOf Try.f116) tabRw tyR true (cs116 n) lab x = o116_0 n x.1 x.2.1 x.2.2.1 x.2.2.2.1 := by kernel_rfl
theorem w116 (n : Nat) (x : PTs.den F116.ps) : F116.body (bodyOf Try.f116) tabRw tyR true (cs116 n) (F116.labX (bodyOf Try.f116) tabRw tyR true (cs116 n) (F116.labM (bodyOf Try.f116) tabRw tyR true (cs116 n) 0) F116.D) x = o116_0 n x.1 x.2.1 x.2.2.1 x.2.2.2.1 := by
  show F116.body (bodyOf Try.f116) tabRw tyR true (cs116 n) (F116.labX (bodyOf Try.f116) tabRw tyR true (cs116 n) (F116.labM (bodyOf Try.f116) tabRw tyR true (cs116 n) 0) 2) x = _
  rw [p116_0]
theorem call116 : Callable Try.prog 116 := callable_of Try.func116 (by kernel_rfl) (by kernel_rfl)
theorem ok116 (n : Nat) : Cal.Ok Try.prog ⟨116, F116.ps, F116.rs, F116.fr, fun a => f116 n a.1 a.2.1 a.2.2.1 a.2.2.2.1⟩ :=
  cal_of_fn F116 (code := bodyOf Try.f116) Try.func116 (by kernel_rfl) (by kernel_rfl) call116 htabRw (cs := cs116 n) (fun c hc => by
      simp only [cs116, List.mem_cons, List.not_mem_nil, or_false] at hc
      rcases hc with rfl | rfl | rfl | rfl | rfl | rfl
      · exact ok39 n
      · exact ok142
      · exact ok143
      · exact ok144
      · exact ok145 n
      · exact ok146 n) (fun _ => mixed) (by kernel_rfl) (by kernel_rfl) (by decide) (fun x => ⟨0, w116 n x⟩)
-- tranship/rule.Of
def o62_0 (n : Nat) (k1 : (List Ent) → Int → Int → (List Jd) → Bool → Int → Int → Int → Int → Int → Int → Int → Int → Int → Int → Int → Int → Int → Option (Jd × Bool)) (a0 : List Ent) (a1 : Int) (a2 : Int) (a3 : List Jd) : Option (Jd × Bool) :=
  (f105 n a0).bind fun x1 =>
  ifB (!x1) (
    some ((Jd.mk false (Tm.mk (0 : Int) (0 : Int) (0 : Int) (0 : Int) ([] : List Tm)) (Tm.mk (0 : Int) (0 : Int) (0 : Int) (0 : Int) ([] : List Tm)) (Tm.mk (0 : Int) (0 : Int) (0 : Int) (0 : Int) ([] : List Tm)) (0 : Int)), false)) (
    (f106 a1).bind fun x2 =>
    ifB (decide (x2 < (0 : Int))) (
      some ((Jd.mk false (Tm.mk (0 : Int) (0 : Int) (0 : Int) (0 : Int) ([] : List Tm)) (Tm.mk (0 : Int) (0 : Int) (0 : Int) (0 : Int) ([] : List Tm)) (Tm.mk (0 : Int) (0 : Int) (0 : Int) (0 : Int) ([] : List Tm)) (0 : Int)), false)) (
      (f106 a1).bind fun x3 =>
      ifB (!decide (x3 = (a3.length : Int))) (
        some ((Jd.mk false (Tm.mk (0 : Int) (0 : Int) (0 : Int) (0 : Int) ([] : List Tm)) (Tm.mk (0 : Int) (0 : Int) (0 : Int) (0 : Int) ([] : List Tm)) (Tm.mk (0 : Int) (0 : Int) (0 : Int) (0 : Int) ([] : List Tm)) (0 : Int)), false)) (
        k1 a0 a1 a2 a3 false (0 : Int) (0 : Int) (0 : Int) (0 : Int) (0 : Int) (0 : Int) (0 : Int) (0 : Int) (0 : Int) (0 : Int) (0 : Int) (0 : Int) (0 : Int))))
def o62_1 (n : Nat) (k2 : (List Ent) → Int → Int → (List Jd) → Bool → Int → Int → Int → Int → Int → Int → Int → Int → Int → Int → Int → Int → Int → (List Jd) → Int → Int → Option (Jd × Bool)) (t0 : List Ent) (t1 : Int) (t2 : Int) (t3 : List Jd) (t8_0 : Bool) (t8_1 : Int) (t8_2 : Int) (t8_3 : Int) (t8_4 : Int) (t8_6 : Int) (t8_7 : Int) (t8_8 : Int) (t8_9 : Int) (t8_11 : Int) (t8_12 : Int) (t8_13 : Int) (t8_14 : Int) (t8_16 : Int) : Option (Jd × Bool) :=
  k2 t0 t1 t2 t3 t8_0 t8_1 t8_2 t8_3 t8_4 t8_6 t8_7 t8_8 t8_9 t8_11 t8_12 t8_13 t8_14 t8_16 t3 (t3.length : Int) (0 : Int)
def o62_2 (n : Nat) (k3 : (List Ent) → Int → Int → (List Jd) → Bool → Int → Int → Int → Int → Int → Int → Int → Int → Int → Int → Int → Int → Int → Jd → Int → (List Jd) → Int → Int → Option (Jd × Bool)) (k4 : Bool → Int → Int → Int → Int → Int → Int → Int → Int → Int → Int → Int → Int → Int → Jd → Option (Jd × Bool)) (t0 : List Ent) (t1 : Int) (t2 : Int) (t3 : List Jd) (t8_0 : Bool) (t8_1 : Int) (t8_2 : Int) (t8_3 : Int) (t8_4 : Int) (t8_6 : Int) (t8_7 : Int) (t8_8 : Int) (t8_9 : Int) (t8_11 : Int) (t8_12 : Int) (t8_13 : Int) (t8_14 : Int) (t8_16 : Int) (t33 : List Jd) (t34 : Int) (t35 : Int) : Option (Jd × Bool) :=
  ifB (decide (t35 < t34)) (
    atI t33 t35 fun x4 =>
    (f107 t1 t35).bind fun x5 =>
    ifB x5 (
      ckI ((t0.length : Int) + (1 : Int)) <|
      atI t3 (0 : Int) fun x6 =>
      (f109 t1 x6).bind fun x7 =>
      ifB (!x7.2) (
        some ((Jd.mk false (Tm.mk (0 : Int) (0 : Int) (0 : Int) (0 : Int) ([] : List Tm)) (Tm.mk (0 : Int) (0 : Int) (0 : Int) (0 : Int) ([] : List Tm)) (Tm.mk (0 : Int) (0 : Int) (0 : Int) (0 : Int) ([] : List Tm)) (0 : Int)), false)) (
        k3 t0 t1 t2 t3 t8_0 t8_1 t8_2 t8_3 t8_4 t8_6 t8_7 t8_8 t8_9 t8_11 t8_12 t8_13 t8_14 t8_16 x4 ((t0.length : Int) + (1 : Int)) t33 t34 t35)) (
      k3 t0 t1 t2 t3 t8_0 t8_1 t8_2 t8_3 t8_4 t8_6 t8_7 t8_8 t8_9 t8_11 t8_12 t8_13 t8_14 t8_16 x4 (t0.length : Int) t33 t34 t35)) (
    (f116 n t0 t1 t2 t3).bind fun x8 =>
    ifB (!x8.2) (
      some ((Jd.mk false (Tm.mk (0 : Int) (0 : Int) (0 : Int) (0 : Int) ([] : List Tm)) (Tm.mk (0 : Int) (0 : Int) (0 : Int) (0 : Int) ([] : List Tm)) (Tm.mk (0 : Int) (0 : Int) (0 : Int) (0 : Int) ([] : List Tm)) (0 : Int)), false)) (
      ifB (decide ((1000 : Int) < x8.1.i)) (
        some ((Jd.mk false (Tm.mk (0 : Int) (0 : Int) (0 : Int) (0 : Int) ([] : List Tm)) (Tm.mk (0 : Int) (0 : Int) (0 : Int) (0 : Int) ([] : List Tm)) (Tm.mk (0 : Int) (0 : Int) (0 : Int) (0 : Int) ([] : List Tm)) (0 : Int)), false)) (
        k4 t8_0 t8_1 t8_2 t8_3 t8_4 t8_6 t8_7 t8_8 t8_9 t8_11 t8_12 t8_13 t8_14 t8_16 x8.1)))
def o62_3 (n : Nat) (k2 : (List Ent) → Int → Int → (List Jd) → Bool → Int → Int → Int → Int → Int → Int → Int → Int → Int → Int → Int → Int → Int → (List Jd) → Int → Int → Option (Jd × Bool)) (t0 : List Ent) (t1 : Int) (t2 : Int) (t3 : List Jd) (t8_0 : Bool) (t8_1 : Int) (t8_2 : Int) (t8_3 : Int) (t8_4 : Int) (t8_6 : Int) (t8_7 : Int) (t8_8 : Int) (t8_9 : Int) (t8_11 : Int) (t8_12 : Int) (t8_13 : Int) (t8_14 : Int) (t8_16 : Int) (t11 : Jd) (t12 : Int) (t33 : List Jd) (t34 : Int) (t35 : Int) : Option (Jd × Bool) :=
  (f108 n t11 t12).bind fun x9 =>
  ifB (!x9) (
    some ((Jd.mk false (Tm.mk (0 : Int) (0 : Int) (0 : Int) (0 : Int) ([] : List Tm)) (Tm.mk (0 : Int) (0 : Int) (0 : Int) (0 : Int) ([] : List Tm)) (Tm.mk (0 : Int) (0 : Int) (0 : Int) (0 : Int) ([] : List Tm)) (0 : Int)), false)) (
    ckI (t35 + (1 : Int)) <|
    k2 t0 t1 t2 t3 t8_0 t8_1 t8_2 t8_3 t8_4 t8_6 t8_7 t8_8 t8_9 t8_11 t8_12 t8_13 t8_14 t8_16 t33 t34 (t35 + (1 : Int)))
def o62_4 (n : Nat) (t8_0 : Bool) (t8_1 : Int) (t8_2 : Int) (t8_3 : Int) (t8_4 : Int) (t8_6 : Int) (t8_7 : Int) (t8_8 : Int) (t8_9 : Int) (t8_11 : Int) (t8_12 : Int) (t8_13 : Int) (t8_14 : Int) (t8_16 : Int) (t15 : Jd) : Option (Jd × Bool) :=
  (f102 n t15.u).bind fun x10 =>
  (f102 n t15.v).bind fun x11 =>
  (f102 n t15.a).bind fun x12 =>
  some ((Jd.mk t15.eq (Tm.mk x10.kind x10.i x10.j x10.n x10.kids) (Tm.mk x11.kind x11.i x11.j x11.n x11.kids) (Tm.mk x12.kind x12.i x12.j x12.n x12.kids) t15.i), true)
def c62_1 (n : Nat) (k2 : (List Ent) → Int → Int → (List Jd) → Bool → Int → Int → Int → Int → Int → Int → Int → Int → Int → Int → Int → Int → Int → (List Jd) → Int → Int → Option (Jd × Bool)) (t0 : List Ent) (t1 : Int) (t2 : Int) (t3 : List Jd) (t8_0 : Bool) (t8_1 : Int) (t8_2 : Int) (t8_3 : Int) (t8_4 : Int) (t8_6 : Int) (t8_7 : Int) (t8_8 : Int) (t8_9 : Int) (t8_11 : Int) (t8_12 : Int) (t8_13 : Int) (t8_14 : Int) (t8_16 : Int) : Option (Jd × Bool) :=
  o62_1 n k2 t0 t1 t2 t3 t8_0 t8_1 t8_2 t8_3 t8_4 t8_6 t8_7 t8_8 t8_9 t8_11 t8_12 t8_13 t8_14 t8_16
def c62_3 (n : Nat) (k2 : (List Ent) → Int → Int → (List Jd) → Bool → Int → Int → Int → Int → Int → Int → Int → Int → Int → Int → Int → Int → Int → (List Jd) → Int → Int → Option (Jd × Bool)) (t0 : List Ent) (t1 : Int) (t2 : Int) (t3 : List Jd) (t8_0 : Bool) (t8_1 : Int) (t8_2 : Int) (t8_3 : Int) (t8_4 : Int) (t8_6 : Int) (t8_7 : Int) (t8_8 : Int) (t8_9 : Int) (t8_11 : Int) (t8_12 : Int) (t8_13 : Int) (t8_14 : Int) (t8_16 : Int) (t11 : Jd) (t12 : Int) (t33 : List Jd) (t34 : Int) (t35 : Int) : Option (Jd × Bool) :=
  o62_3 n k2 t0 t1 t2 t3 t8_0 t8_1 t8_2 t8_3 t8_4 t8_6 t8_7 t8_8 t8_9 t8_11 t8_12 t8_13 t8_14 t8_16 t11 t12 t33 t34 t35
def c62_4 (n : Nat) (t8_0 : Bool) (t8_1 : Int) (t8_2 : Int) (t8_3 : Int) (t8_4 : Int) (t8_6 : Int) (t8_7 : Int) (t8_8 : Int) (t8_9 : Int) (t8_11 : Int) (t8_12 : Int) (t8_13 : Int) (t8_14 : Int) (t8_16 : Int) (t15 : Jd) : Option (Jd × Bool) :=
  o62_4 n t8_0 t8_1 t8_2 t8_3 t8_4 t8_6 t8_7 t8_8 t8_9 t8_11 t8_12 t8_13 t8_14 t8_16 t15
def l62_2 (n : Nat) : Nat → (List Ent) → Int → Int → (List Jd) → Bool → Int → Int → Int → Int → Int → Int → Int → Int → Int → Int → Int → Int → Int → (List Jd) → Int → Int → Option (Jd × Bool)
  | 0, _, _, _, _, _, _, _, _, _, _, _, _, _, _, _, _, _, _, _, _, _ => none
  | m + 1, t0, t1, t2, t3, t8_0, t8_1, t8_2, t8_3, t8_4, t8_6, t8_7, t8_8, t8_9, t8_11, t8_12, t8_13, t8_14, t8_16, t33, t34, t35 => o62_2 n (c62_3 n (l62_2 n m)) (c62_4 n) t0 t1 t2 t3 t8_0 t8_1 t8_2 t8_3 t8_4 t8_6 t8_7 t8_8 t8_9 t8_11 t8_12 t8_13 t8_14 t8_16 t33 t34 t35
def f62 (n : Nat) (a0 : List Ent) (a1 : Int) (a2 : Int) (a3 : List Jd) : Option (Jd × Bool) := o62_0 n (c62_1 n (l62_2 n n)) a0 a1 a2 a3
def an62 : An := (.n none [] 0 .z (.n (some 1) [(0, .one (.d .ent false)), (1, .one .c), (2, .one .c), (3, .one (.d .jd false)), (8, .p 0 [.c, .c, .c, .c, .c, .k, .c, .c, .c, .c, .k, .c, .c, .c, .c, .k, .c])] 1 .z (.n none [] 0 (.n none [] 0 .z (.n none [] 0 (.n (some 2) [(0, .one (.d .ent false)), (1, .one .c), (2, .one .c), (3, .one (.d .jd false)), (8, .p 0 [.c, .c, .c, .c, .c, .k, .c, .c, .c, .c, .k, .c, .c, .c, .c, .k, .c]), (33, .one (.d .jd false)), (34, .one .c), (35, .one .c)] 1 (.n none [] 0 .z (.n none [] 0 .z (.n none [] 0 (.n none [] 0 (.n none [] 0 .z (.n none [] 0 .z (.n (some 3) [(0, .one (.d .ent false)), (1, .one .c), (2, .one .c), (3, .one (.d .jd false)), (8, .p 0 [.c, .c, .c, .c, .c, .k, .c, .c, .c, .c, .k, .c, .c, .c, .c, .k, .c]), (11, .ps 1 .jd false), (12, .one .c), (33, .one (.d .jd false)), (34, .one .c), (35, .one .c)] 2 .z .z))) .z) .z))) .z) .z)) (.n none [] 0 .z (.n (some 4) [(8, .p 0 [.c, .c, .c, .c, .c, .k, .c, .c, .c, .c, .k, .c, .c, .c, .c, .k, .c]), (15, .ps 1 .jd false)] 2 .z .z)))))
def F62 : Fn := { f := 62, a := an62, vars := [.cell 8 49, .tmp 9], ps := [.sl .ent, .sc .int, .sc .int, .sl .jd], rs := [.st .jd, .sc .bool], own := false, fr := true, nt := 94, D := 6, loops := [2] }
def cs62 (n : Nat) : List Cal := [⟨102, [.st .tm], [.st .tm], true, fun a => f102 n a.1⟩, ⟨105, [.sl .ent], [.sc .bool], true, fun a => f105 n a.1⟩, ⟨106, [.sc .int], [.sc .int], true, fun a => f106 a.1⟩, ⟨107, [.sc .int, .sc .int], [.sc .bool], true, fun a => f107 a.1 a.2.1⟩, ⟨108, [.st .jd, .sc .int], [.sc .bool], true, fun a => f108 n a.1 a.2.1⟩, ⟨109, [.sc .int, .st .jd], [.st .ent, .sc .bool], false, fun a => f109 a.1 a.2.1⟩, ⟨116, [.sl .ent, .sc .int, .sc .int, .sl .jd], [.st .jd, .sc .bool], false, fun a => f116 n a.1 a.2.1 a.2.2.1 a.2.2.2.1⟩]
def st62_1 (t0 : List Ent) (t1 : Int) (t2 : Int) (t3 : List Jd) (t8_0 : Bool) (t8_1 : Int) (t8_2 : Int) (t8_3 : Int) (t8_4 : Int) (t8_6 : Int) (t8_7 : Int) (t8_8 : Int) (t8_9 : Int) (t8_11 : Int) (t8_12 : Int) (t8_13 : Int) (t8_14 : Int) (t8_16 : Int) : SS := ⟨[(0, .v (.one (.c (.sl .ent t0) false))), (1, .v (.one (.c (.int t1) true))), (2, .v (.one (.c (.int t2) true))), (3, .v (.one (.c (.sl .jd t3) false))), (8, .v (.one (.ptr 0 0)))], [(0, some (.box [.c (.bool t8_0) true, .c (.int t8_1) true, .c (.int t8_2) true, .c (.int t8_3) true, .c (.int t8_4) true, .nils, .c (.int t8_6) true, .c (.int t8_7) true, .c (.int t8_8) true, .c (.int t8_9) true, .nils, .c (.int t8_11) true, .c (.int t8_12) true, .c (.int t8_13) true, .c (.int t8_14) true, .nils, .c (.int t8_16) true]))], 1⟩
def st62_2 (t0 : List Ent) (t1 : Int) (t2 : Int) (t3 : List Jd) (t8_0 : Bool) (t8_1 : Int) (t8_2 : Int) (t8_3 : Int) (t8_4 : Int) (t8_6 : Int) (t8_7 : Int) (t8_8 : Int) (t8_9 : Int) (t8_11 : Int) (t8_12 : Int) (t8_13 : Int) (t8_14 : Int) (t8_16 : Int) (t33 : List Jd) (t34 : Int) (t35 : Int) : SS := ⟨[(0, .v (.one (.c (.sl .ent t0) false))), (1, .v (.one (.c (.int t1) true))), (2, .v (.one (.c (.int t2) true))), (3, .v (.one (.c (.sl .jd t3) false))), (8, .v (.one (.ptr 0 0))), (33, .v (.one (.c (.sl .jd t33) false))), (34, .v (.one (.c (.int t34) true))), (35, .v (.one (.c (.int t35) true)))], [(0, some (.box [.c (.bool t8_0) true, .c (.int t8_1) true, .c (.int t8_2) true, .c (.int t8_3) true, .c (.int t8_4) true, .nils, .c (.int t8_6) true, .c (.int t8_7) true, .c (.int t8_8) true, .c (.int t8_9) true, .nils, .c (.int t8_11) true, .c (.int t8_12) true, .c (.int t8_13) true, .c (.int t8_14) true, .nils, .c (.int t8_16) true]))], 1⟩
def st62_3 (t0 : List Ent) (t1 : Int) (t2 : Int) (t3 : List Jd) (t8_0 : Bool) (t8_1 : Int) (t8_2 : Int) (t8_3 : Int) (t8_4 : Int) (t8_6 : Int) (t8_7 : Int) (t8_8 : Int) (t8_9 : Int) (t8_11 : Int) (t8_12 : Int) (t8_13 : Int) (t8_14 : Int) (t8_16 : Int) (t11 : Jd) (t12 : Int) (t33 : List Jd) (t34 : Int) (t35 : Int) : SS := ⟨[(0, .v (.one (.c (.sl .ent t0) false))), (1, .v (.one (.c (.int t1) true))), (2, .v (.one (.c (.int t2) true))), (3, .v (.one (.c (.sl .jd t3) false))), (8, .v (.one (.ptr 0 0))), (11, .v (.one (.ptr 1 0))), (12, .v (.one (.c (.int t12) true))), (33, .v (.one (.c (.sl .jd t33) false))), (34, .v (.one (.c (.int t34) true))), (35, .v (.one (.c (.int t35) true)))], [(0, some (.box [.c (.bool t8_0) true, .c (.int t8_1) true, .c (.int t8_2) true, .c (.int t8_3) true, .c (.int t8_4) true, .nils, .c (.int t8_6) true, .c (.int t8_7) true, .c (.int t8_8) true, .c (.int t8_9) true, .nils, .c (.int t8_11) true, .c (.int t8_12) true, .c (.int t8_13) true, .c (.int t8_14) true, .nils, .c (.int t8_16) true])), (1, some (.bst .jd t11 false))], 2⟩
def st62_4 (t8_0 : Bool) (t8_1 : Int) (t8_2 : Int) (t8_3 : Int) (t8_4 : Int) (t8_6 : Int) (t8_7 : Int) (t8_8 : Int) (t8_9 : Int) (t8_11 : Int) (t8_12 : Int) (t8_13 : Int) (t8_14 : Int) (t8_16 : Int) (t15 : Jd) : SS := ⟨[(8, .v (.one (.ptr 0 0))), (15, .v (.one (.ptr 1 0)))], [(0, some (.box [.c (.bool t8_0) true, .c (.int t8_1) true, .c (.int t8_2) true, .c (.int t8_3) true, .c (.int t8_4) true, .nils, .c (.int t8_6) true, .c (.int t8_7) true, .c (.int t8_8) true, .c (.int t8_9) true, .nils, .c (.int t8_11) true, .c (.int t8_12) true, .c (.int t8_13) true, .c (.int t8_14) true, .nils, .c (.int t8_16) true])), (1, some (.bst .jd t15 false))], 2⟩
theorem p62_0 (n : Nat) (lab : Nat → SS → Option (RT.den F62.rs)) (x : PTs.den F62.ps) : F62.body (bodyOf Try.f62) tabR tyR true (cs62 n) lab x = o62_0 n (fun t0 t1 t2 t3 t8_0 t8_1 t8_2 t8_3 t8_4 t8_6 t8_7 t8_8 t8_9 t8_11 t8_12 t8_13 t8_14 t8_16 => lab 1 (st62_1 t0 t1 t2 t3 t8_0 t8_1 t8_2 t8_3 t8_4 t8_6 t8_7 t8_8 t8_9 t8_11 t8_12 t8_13 t8_14 t8_16)) x.1 x.2.1 x.2.2.1 x.2.2.2.1 := by kernel_rfl
theorem p62_1 (n : Nat) (lab : Nat → SS → Option (RT.den F62.rs)) (t0 : List Ent) (t1 : Int) (t2 : Int) (t3 : List Jd) (t8_0 : Bool) (t8_1 : Int) (t8_2 : Int) (t8_3 : Int) (t8_4 : Int) (t8_6 : Int) (t8_7 : Int) (t8_8 : Int) (t8_9 : Int) (t8_11 : Int) (t8_12 : Int) (t8_13 : Int) (t8_14 : Int) (t8_16 : Int) : F62.at (bodyOf Try.f62) tabR tyR true (cs62 n) lab 1 (st62_1 t0 t1 t2 t3 t8_0 t8_1 t8_2 t8_3 t8_4 t8_6 t8_7 t8_8 t8_9 t8_11 t8_12 t8_13 t8_14 t8_16) = o62_1 n (fun t0 t1 t2 t3 t8_0 t8_1 t8_2 t8_3 t8_4 t8_6 t8_7 t8_8 t8_9 t8_11 t8_12 t8_13 t8_14 t8_16 t33 t34 t35 => lab 2 (st62_2 t0 t1 t2 t3 t8_0 t8_1 t8_2 t8_3 t8_4 t8_6 t8_7 t8_8 t8_9 t8_11 t8_12 t8_13 t8_14 t8_16 t33 t34 t35)) t0 t1 t2 t3 t8_0 t8_1 t8_2 t8_3 t8_4 t8_6 t8_7 t8_8 t8_9 t8_11 t8_12 t8_13 t8_14 t8_16 := by kernel_rfl
theorem p62_2 (n : Nat) (lab : Nat → SS → Option (RT.den F62.rs)) (t0 : List Ent) (t1 : Int) (t2 : Int) (t3 : List Jd) (t8_0 : Bool) (t8_1 : Int) (t8_2 : Int) (t8_3 : Int) (t8_4 : Int) (t8_6 : Int) (t8_7 : Int) (t8_8 : Int) (t8_9 : Int) (t8_11 : Int) (t8_12 : Int) (t8_13 : Int) (t8_14 : Int) (t8_16 : Int) (t33 : List Jd) (t34 : Int) (t35 : Int) : F62.at (bodyOf Try.f62) tabR tyR true (cs62 n) lab 2 (st62_2 t0 t1 t2 t3 t8_0 t8_1 t8_2 t8_3 t8_4 t8_6 t8_7 t8_8 t8_9 t8_11 t8_12 t8_13 t8_14 t8_16 t33 t34 t35) = o62_2 n (fun t0 t1 t2 t3 t8_0 t8_1 t8_2 t8_3 t8_4 t8_6 t8_7 t8_8 t8_9 t8_11 t8_12 t8_13 t8_14 t8_16 t11 t12 t33 t34 t35 => lab 3 (st62_3 t0 t1 t2 t3 t8_0 t8_1 t8_2 t8_3 t8_4 t8_6 t8_7 t8_8 t8_9 t8_11 t8_12 t8_13 t8_14 t8_16 t11 t12 t33 t34 t35)) (fun t8_0 t8_1 t8_2 t8_3 t8_4 t8_6 t8_7 t8_8 t8_9 t8_11 t8_12 t8_13 t8_14 t8_16 t15 => lab 4 (st62_4 t8_0 t8_1 t8_2 t8_3 t8_4 t8_6 t8_7 t8_8 t8_9 t8_11 t8_12 t8_13 t8_14 t8_16 t15)) t0 t1 t2 t3 t8_0 t8_1 t8_2 t8_3 t8_4 t8_6 t8_7 t8_8 t8_9 t8_11 t8_12 t8_13 t8_14 t8_16 t33 t34 t35 := by kernel_rfl
theorem p62_3 (n : Nat) (lab : Nat → SS → Option (RT.den F62.rs)) (t0 : List Ent) (t1 : Int) (t2 : Int) (t3 : List Jd) (t8_0 : Bool) (t8_1 : Int) (t8_2 : Int) (t8_3 : Int) (t8_4 : Int) (t8_6 : Int) (t8_7 : Int) (t8_8 : Int) (t8_9 : Int) (t8_11 : Int) (t8_12 : Int) (t8_13 : Int) (t8_14 : Int) (t8_16 : Int) (t11 : Jd) (t12 : Int) (t33 : List Jd) (t34 : Int) (t35 : Int) : F62.at (bodyOf Try.f62) tabR tyR true (cs62 n) lab 3 (st62_3 t0 t1 t2 t3 t8_0 t8_1 t8_2 t8_3 t8_4 t8_6 t8_7 t8_8 t8_9 t8_11 t8_12 t8_13 t8_14 t8_16 t11 t12 t33 t34 t35) = o62_3 n (fun t0 t1 t2 t3 t8_0 t8_1 t8_2 t8_3 t8_4 t8_6 t8_7 t8_8 t8_9 t8_11 t8_12 t8_13 t8_14 t8_16 t33 t34 t35 => lab 2 (st62_2 t0 t1 t2 t3 t8_0 t8_1 t8_2 t8_3 t8_4 t8_6 t8_7 t8_8 t8_9 t8_11 t8_12 t8_13 t8_14 t8_16 t33 t34 t35)) t0 t1 t2 t3 t8_0 t8_1 t8_2 t8_3 t8_4 t8_6 t8_7 t8_8 t8_9 t8_11 t8_12 t8_13 t8_14 t8_16 t11 t12 t33 t34 t35 := by kernel_rfl
theorem p62_4 (n : Nat) (lab : Nat → SS → Option (RT.den F62.rs)) (t8_0 : Bool) (t8_1 : Int) (t8_2 : Int) (t8_3 : Int) (t8_4 : Int) (t8_6 : Int) (t8_7 : Int) (t8_8 : Int) (t8_9 : Int) (t8_11 : Int) (t8_12 : Int) (t8_13 : Int) (t8_14 : Int) (t8_16 : Int) (t15 : Jd) : F62.at (bodyOf Try.f62) tabR tyR true (cs62 n) lab 4 (st62_4 t8_0 t8_1 t8_2 t8_3 t8_4 t8_6 t8_7 t8_8 t8_9 t8_11 t8_12 t8_13 t8_14 t8_16 t15) = o62_4 n t8_0 t8_1 t8_2 t8_3 t8_4 t8_6 t8_7 t8_8 t8_9 t8_11 t8_12 t8_13 t8_14 t8_16 t15 := by kernel_rfl
theorem n62_1 (n : Nat) (rec : Nat → SS → Option (RT.den F62.rs)) (k2 : (List Ent) → Int → Int → (List Jd) → Bool → Int → Int → Int → Int → Int → Int → Int → Int → Int → Int → Int → Int → Int → (List Jd) → Int → Int → Option (Jd × Bool)) (h2 : ∀ t0 t1 t2 t3 t8_0 t8_1 t8_2 t8_3 t8_4 t8_6 t8_7 t8_8 t8_9 t8_11 t8_12 t8_13 t8_14 t8_16 t33 t34 t35, rec 2 (st62_2 t0 t1 t2 t3 t8_0 t8_1 t8_2 t8_3 t8_4 t8_6 t8_7 t8_8 t8_9 t8_11 t8_12 t8_13 t8_14 t8_16 t33 t34 t35) = k2 t0 t1 t2 t3 t8_0 t8_1 t8_2 t8_3 t8_4 t8_6 t8_7 t8_8 t8_9 t8_11 t8_12 t8_13 t8_14 t8_16 t33 t34 t35) (d : Nat) (t0 : List Ent) (t1 : Int) (t2 : Int) (t3 : List Jd) (t8_0 : Bool) (t8_1 : Int) (t8_2 : Int) (t8_3 : Int) (t8_4 : Int) (t8_6 : Int) (t8_7 : Int) (t8_8 : Int) (t8_9 : Int) (t8_11 : Int) (t8_12 : Int) (t8_13 : Int) (t8_14 : Int) (t8_16 : Int) : F62.labD (bodyOf Try.f62) tabR tyR true (cs62 n) rec (d + 1) 1 (st62_1 t0 t1 t2 t3 t8_0 t8_1 t8_2 t8_3 t8_4 t8_6 t8_7 t8_8 t8_9 t8_11 t8_12 t8_13 t8_14 t8_16) = c62_1 n k2 t0 t1 t2 t3 t8_0 t8_1 t8_2 t8_3 t8_4 t8_6 t8_7 t8_8 t8_9 t8_11 t8_12 t8_13 t8_14 t8_16 := by
  have e2 : ∀ t0 t1 t2 t3 t8_0 t8_1 t8_2 t8_3 t8_4 t8_6 t8_7 t8_8 t8_9 t8_11 t8_12 t8_13 t8_14 t8_16 t33 t34 t35, F62.labX (bodyOf Try.f62) tabR tyR true (cs62 n) rec d 2 (st62_2 t0 t1 t2 t3 t8_0 t8_1 t8_2 t8_3 t8_4 t8_6 t8_7 t8_8 t8_9 t8_11 t8_12 t8_13 t8_14 t8_16 t33 t34 t35) = k2 t0 t1 t2 t3 t8_0 t8_1 t8_2 t8_3 t8_4 t8_6 t8_7 t8_8 t8_9 t8_11 t8_12 t8_13 t8_14 t8_16 t33 t34 t35 := fun t0 t1 t2 t3 t8_0 t8_1 t8_2 t8_3 t8_4 t8_6 t8_7 t8_8 t8_9 t8_11 t8_12 t8_13 t8_14 t8_16 t33 t34 t35 => (Fn.labX_loop _ _ _ _ _ _ _ _ _ _ (by kernel_rfl)).trans (h2 t0 t1 t2 t3 t8_0 t8_1 t8_2 t8_3 t8_4 t8_6 t8_7 t8_8 t8_9 t8_11 t8_12 t8_13 t8_14 t8_16 t33 t34 t35)
  show F62.labD (bodyOf Try.f62) tabR tyR true (cs62 n) rec (d + 1) 1 _ = _
  rw [Fn.labD_succ, p62_1]
  simp only [e2]
  rfl
theorem n62_3 (n : Nat) (rec : Nat → SS → Option (RT.den F62.rs)) (k2 : (List Ent) → Int → Int → (List Jd) → Bool → Int → Int → Int → Int → Int → Int → Int → Int → Int → Int → Int → Int → Int → (List Jd) → Int → Int → Option (Jd × Bool)) (h2 : ∀ t0 t1 t2 t3 t8_0 t8_1 t8_2 t8_3 t8_4 t8_6 t8_7 t8_8 t8_9 t8_11 t8_12 t8_13 t8_14 t8_16 t33 t34 t35, rec 2 (st62_2 t0 t1 t2 t3 t8_0 t8_1 t8_2 t8_3 t8_4 t8_6 t8_7 t8_8 t8_9 t8_11 t8_12 t8_13 t8_14 t8_16 t33 t34 t35) = k2 t0 t1 t2 t3 t8_0 t8_1 t8_2 t8_3 t8_4 t8_6 t8_7 t8_8 t8_9 t8_11 t8_12 t8_13 t8_14 t8_16 t33 t34 t35) (d : Nat) (t0 : List Ent) (t1 : Int) (t2 : Int) (t3 : List Jd) (t8_0 : Bool) (t8_1 : Int) (t8_2 : Int) (t8_3 : Int) (t8_4 : Int) (t8_6 : Int) (t8_7 : Int) (t8_8 : Int) (t8_9 : Int) (t8_11 : Int) (t8_12 : Int) (t8_13 : Int) (t8_14 : Int) (t8_16 : Int) (t11 : Jd) (t12 : Int) (t33 : List Jd) (t34 : Int) (t35 : Int) : F62.labD (bodyOf Try.f62) tabR tyR true (cs62 n) rec (d + 1) 3 (st62_3 t0 t1 t2 t3 t8_0 t8_1 t8_2 t8_3 t8_4 t8_6 t8_7 t8_8 t8_9 t8_11 t8_12 t8_13 t8_14 t8_16 t11 t12 t33 t34 t35) = c62_3 n k2 t0 t1 t2 t3 t8_0 t8_1 t8_2 t8_3 t8_4 t8_6 t8_7 t8_8 t8_9 t8_11 t8_12 t8_13 t8_14 t8_16 t11 t12 t33 t34 t35 := by
  have e2 : ∀ t0 t1 t2 t3 t8_0 t8_1 t8_2 t8_3 t8_4 t8_6 t8_7 t8_8 t8_9 t8_11 t8_12 t8_13 t8_14 t8_16 t33 t34 t35, F62.labX (bodyOf Try.f62) tabR tyR true (cs62 n) rec d 2 (st62_2 t0 t1 t2 t3 t8_0 t8_1 t8_2 t8_3 t8_4 t8_6 t8_7 t8_8 t8_9 t8_11 t8_12 t8_13 t8_14 t8_16 t33 t34 t35) = k2 t0 t1 t2 t3 t8_0 t8_1 t8_2 t8_3 t8_4 t8_6 t8_7 t8_8 t8_9 t8_11 t8_12 t8_13 t8_14 t8_16 t33 t34 t35 := fun t0 t1 t2 t3 t8_0 t8_1 t8_2 t8_3 t8_4 t8_6 t8_7 t8_8 t8_9 t8_11 t8_12 t8_13 t8_14 t8_16 t33 t34 t35 => (Fn.labX_loop _ _ _ _ _ _ _ _ _ _ (by kernel_rfl)).trans (h2 t0 t1 t2 t3 t8_0 t8_1 t8_2 t8_3 t8_4 t8_6 t8_7 t8_8 t8_9 t8_11 t8_12 t8_13 t8_14 t8_16 t33 t34 t35)
  show F62.labD (bodyOf Try.f62) tabR tyR true (cs62 n) rec (d + 1) 3 _ = _
  rw [Fn.labD_succ, p62_3]
  simp only [e2]
  rfl
theorem n62_4 (n : Nat) (rec : Nat → SS → Option (RT.den F62.rs)) (d : Nat) (t8_0 : Bool) (t8_1 : Int) (t8_2 : Int) (t8_3 : Int) (t8_4 : Int) (t8_6 : Int) (t8_7 : Int) (t8_8 : Int) (t8_9 : Int) (t8_11 : Int) (t8_12 : Int) (t8_13 : Int) (t8_14 : Int) (t8_16 : Int) (t15 : Jd) : F62.labD (bodyOf Try.f62) tabR tyR true (cs62 n) rec (d + 1) 4 (st62_4 t8_0 t8_1 t8_2 t8_3 t8_4 t8_6 t8_7 t8_8 t8_9 t8_11 t8_12 t8_13 t8_14 t8_16 t15) = c62_4 n t8_0 t8_1 t8_2 t8_3 t8_4 t8_6 t8_7 t8_8 t8_9 t8_11 t8_12 t8_13 t8_14 t8_16 t15 := by
  show F62.labD (bodyOf Try.f62) tabR tyR true (cs62 n) rec (d + 1) 4 _ = _
  rw [Fn.labD_succ, p62_4]
  rfl
theorem m62_2 (n : Nat) : ∀ m : Nat, (∀ t0 t1 t2 t3 t8_0 t8_1 t8_2 t8_3 t8_4 t8_6 t8_7 t8_8 t8_9 t8_11 t8_12 t8_13 t8_14 t8_16 t33 t34 t35, F62.labM (bodyOf Try.f62) tabR tyR true (cs62 n) m 2 (st62_2 t0 t1 t2 t3 t8_0 t8_1 t8_2 t8_3 t8_4 t8_6 t8_7 t8_8 t8_9 t8_11 t8_12 t8_13 t8_14 t8_16 t33 t34 t35) = l62_2 n m t0 t1 t2 t3 t8_0 t8_1 t8_2 t8_3 t8_4 t8_6 t8_7 t8_8 t8_9 t8_11 t8_12 t8_13 t8_14 t8_16 t33 t34 t35) := by
  intro m
  induction m with
  | zero => exact fun _ _ _ _ _ _ _ _ _ _ _ _ _ _ _ _ _ _ _ _ _ => rfl
  | succ m ih =>
    intro t0 t1 t2 t3 t8_0 t8_1 t8_2 t8_3 t8_4 t8_6 t8_7 t8_8 t8_9 t8_11 t8_12 t8_13 t8_14 t8_16 t33 t34 t35
    have e3 : ∀ t0 t1 t2 t3 t8_0 t8_1 t8_2 t8_3 t8_4 t8_6 t8_7 t8_8 t8_9 t8_11 t8_12 t8_13 t8_14 t8_16 t11 t12 t33 t34 t35, F62.labX (bodyOf Try.f62) tabR tyR true (cs62 n) (F62.labM (bodyOf Try.f62) tabR tyR true (cs62 n) m) 5 3 (st62_3 t0 t1 t2 t3 t8_0 t8_1 t8_2 t8_3 t8_4 t8_6 t8_7 t8_8 t8_9 t8_11 t8_12 t8_13 t8_14 t8_16 t11 t12 t33 t34 t35) = c62_3 n (l62_2 n m) t0 t1 t2 t3 t8_0 t8_1 t8_2 t8_3 t8_4 t8_6 t8_7 t8_8 t8_9 t8_11 t8_12 t8_13 t8_14 t8_16 t11 t12 t33 t34 t35 := fun t0 t1 t2 t3 t8_0 t8_1 t8_2 t8_3 t8_4 t8_6 t8_7 t8_8 t8_9 t8_11 t8_12 t8_13 t8_14 t8_16 t11 t12 t33 t34 t35 => (Fn.labX_step _ _ _ _ _ _ _ _ _ _ (by kernel_rfl)).trans (n62_3 n (F62.labM (bodyOf Try.f62) tabR tyR true (cs62 n) m) (l62_2 n m) ih 4 t0 t1 t2 t3 t8_0 t8_1 t8_2 t8_3 t8_4 t8_6 t8_7 t8_8 t8_9 t8_11 t8_12 t8_13 t8_14 t8_16 t11 t12 t33 t34 t35)
    have e4 : ∀ t8_0 t8_1 t8_2 t8_3 t8_4 t8_6 t8_7 t8_8 t8_9 t8_11 t8_12 t8_13 t8_14 t8_16 t15, F62.labX (bodyOf Try.f62) tabR tyR true (cs62 n) (F62.labM (bodyOf Try.f62) tabR tyR true (cs62 n) m) 5 4 (st62_4 t8_0 t8_1 t8_2 t8_3 t8_4 t8_6 t8_7 t8_8 t8_9 t8_11 t8_12 t8_13 t8_14 t8_16 t15) = c62_4 n t8_0 t8_1 t8_2 t8_3 t8_4 t8_6 t8_7 t8_8 t8_9 t8_11 t8_12 t8_13 t8_14 t8_16 t15 := fun t8_0 t8_1 t8_2 t8_3 t8_4 t8_6 t8_7 t8_8 t8_9 t8_11 t8_12 t8_13 t8_14 t8_16 t15 => (Fn.labX_step _ _ _ _ _ _ _ _ _ _ (by kernel_rfl)).trans (n62_4 n (F62.labM (bodyOf Try.f62) tabR tyR true (cs62 n) m) 4 t8_0 t8_1 t8_2 t8_3 t8_4 t8_6 t8_7 t8_8 t8_9 t8_11 t8_12 t8_13 t8_14 t8_16 t15)
    rw [Fn.labM_succ]
    show F62.labD (bodyOf Try.f62) tabR tyR true (cs62 n) (F62.labM (bodyOf Try.f62) tabR tyR true (cs62 n) m) (5 + 1) 2 _ = _
    rw [Fn.labD_succ, p62_2]
    simp only [e3, e4]
    rfl
theorem w62 (n : Nat) (x : PTs.den F62.ps) : F62.body (bodyOf Try.f62) tabR tyR true (cs62 n) (F62.labX (bodyOf Try.f62) tabR tyR true (cs62 n) (F62.labM (bodyOf Try.f62) tabR tyR true (cs62 n) n) F62.D) x = o62_0 n (c62_1 n (l62_2 n n)) x.1 x.2.1 x.2.2.1 x.2.2.2.1 := by
  have e1 : ∀ t0 t1 t2 t3 t8_0 t8_1 t8_2 t8_3 t8_4 t8_6 t8_7 t8_8 t8_9 t8_11 t8_12 t8_13 t8_14 t8_16, F62.labX (bodyOf Try.f62) tabR tyR true (cs62 n) (F62.labM (bodyOf Try.f62) tabR tyR true (cs62 n) n) 6 1 (st62_1 t0 t1 t2 t3 t8_0 t8_1 t8_2 t8_3 t8_4 t8_6 t8_7 t8_8 t8_9 t8_11 t8_12 t8_13 t8_14 t8_16) = c62_1 n (l62_2 n n) t0 t1 t2 t3 t8_0 t8_1 t8_2 t8_3 t8_4 t8_6 t8_7 t8_8 t8_9 t8_11 t8_12 t8_13 t8_14 t8_16 := fun t0 t1 t2 t3 t8_0 t8_1 t8_2 t8_3 t8_4 t8_6 t8_7 t8_8 t8_9 t8_11 t8_12 t8_13 t8_14 t8_16 => (Fn.labX_step _ _ _ _ _ _ _ _ _ _ (by kernel_rfl)).trans (n62_1 n (F62.labM (bodyOf Try.f62) tabR tyR true (cs62 n) n) (l62_2 n n) (m62_2 n n) 5 t0 t1 t2 t3 t8_0 t8_1 t8_2 t8_3 t8_4 t8_6 t8_7 t8_8 t8_9 t8_11 t8_12 t8_13 t8_14 t8_16)
  show F62.body (bodyOf Try.f62) tabR tyR true (cs62 n) (F62.labX (bodyOf Try.f62) tabR tyR true (cs62 n) (F62.labM (bodyOf Try.f62) tabR tyR true (cs62 n) n) 6) x = _
  rw [p62_0]
  simp only [e1]
  try rfl
theorem call62 : Callable Try.prog 62 := callable_of Try.func62 (by kernel_rfl) (by kernel_rfl)
theorem ok62 (n : Nat) : Cal.Ok Try.prog ⟨62, F62.ps, F62.rs, F62.fr, fun a => f62 n a.1 a.2.1 a.2.2.1 a.2.2.2.1⟩ :=
  cal_of_fn F62 (code := bodyOf Try.f62) Try.func62 (by kernel_rfl) (by kernel_rfl) call62 htabR (cs := cs62 n) (fun c hc => by
      simp only [cs62, List.mem_cons, List.not_mem_nil, or_false] at hc
      rcases hc with rfl | rfl | rfl | rfl | rfl | rfl | rfl
      · exact ok102 n
      · exact ok105 n
      · exact ok106
      · exact ok107
      · exact ok108 n
      · exact ok109
      · exact ok116 n) (fun _ => mixed) (by kernel_rfl) (by kernel_rfl) (by decide) (fun x => ⟨n, w62 n x⟩)
end Go.Proofs.Ytcaahmielncmpaa
