/-
  NARROWER THAN 'FOR EVERY INPUT', by the rows' own cells (each row's printed sentence says how): DerivExact: loops · DerivPaths: loops · DerivSame: loops · TermSums: loops · EraseExact: loops · ErasePure: loops · RelatedExact: loops · RelatedMoved: loops · StripExact: loops · StripPlain: loops · StripMarks: loops · TermExact: loops · TermSame: loops · TermSorts: loops · LiftExact: loops · LiftTwice: loops · LiftStays: loops · LiftFree: loops · RenameExact: loops · RenameLifts: loops · StripLift: loops · PutExact: loops · PutStrip: loops · PutFree: loops · AllExact: loops · PutAll: loops · PutTwice: loops · PutLift: loops · EraseGoes: loops.
  DERIVED. THE GIVEN ROWS OF THIS SEAT. 31 by the template 'for every input the law returns true; each argument reads behind the call as it read before'; 0 by the template 'total and deterministic' (their statements: YteaglcbnkephgaaTotals.lean).
  GIVEN WITH THE SEED: the statements are not yours to turn. If you find one false, say at which input.
  Laid BY PROGRAM, IN A SANDBOX (cutbox-rows.mjs): the forced cells as the released guide's own fill.sh prints them over the translation 1033bc0de7eea70d… (all of the seat's roots in one cut). By AI agents, Wed Nov 11 2026. No macro, syntax, notation, axiom, sorry.
-/
import Derived.Test.YteaglcbnkephgaaChecked
import GoSem.Claim
import GoSem.ClaimJoined
import GoSem.ClaimMapViews
import Derived.JoinedTies
import Derived.KernelRfl
namespace Go.Proofs.Yteaglcbnkephgaa
/- THE CELL 'sum', in the pinned program and in every row, IS THE sha256 OF THE DUMP (.gsa) THAT YteaglcbnkephgaaProg.lean LOADS. Nothing in Lean hashes anything: it is a label: what it is worth is what the hold of that sum in a sandbox is worth. -/
noncomputable def Try.pinned : Pinned := { name := "yteaglcbnkephgaa", sum := "1033bc0de7eea70d89aa0f8386c313f7432198a7b95e38ca0a772bc705a09c70", checked := Try.checked }
namespace Rows
def none {H : Type} : Left H := { results := [], args := [] }

/-- 'transhiplaw12.DerivExact': WHATEVER THE INPUT: true; the input reads as it did. -/
def derivExactSpec : ChangeSpec := { name := "derivExact", fn := fun _ => fun
  | [d1, d2] => { results := [.lit (.bool true)], args := [d1, d2] }
  | _ => none }
def derivExactRow : OpenClaim := { program := "yteaglcbnkephgaa", sum := "1033bc0de7eea70d89aa0f8386c313f7432198a7b95e38ca0a772bc705a09c70", func := "tranship/transhiplaw12.DerivExact", spec := "derivExact", recurses := true, loops := true, apart := false }
def DerivExactSaid : Prop := derivExactRow.holds Try.pinned (OpenSpec.ofChange derivExactSpec)

/-- ITS FALSE NEIGHBOUR: 'it returns false'. Refute it at one input. -/
def derivExactWrong : ChangeSpec := { name := "derivExact", fn := fun _ => fun
  | [d1, d2] => { results := [.lit (.bool false)], args := [d1, d2] }
  | _ => none }
def DerivExactWrongFalsely : Prop := derivExactRow.holds Try.pinned (OpenSpec.ofChange derivExactWrong)

/-- 'transhiplaw12.DerivPaths': WHATEVER THE INPUT: true; the input reads as it did. -/
def derivPathsSpec : ChangeSpec := { name := "derivPaths", fn := fun _ => fun
  | [d1, d2] => { results := [.lit (.bool true)], args := [d1, d2] }
  | _ => none }
def derivPathsRow : OpenClaim := { program := "yteaglcbnkephgaa", sum := "1033bc0de7eea70d89aa0f8386c313f7432198a7b95e38ca0a772bc705a09c70", func := "tranship/transhiplaw12.DerivPaths", spec := "derivPaths", recurses := true, loops := true, apart := false }
def DerivPathsSaid : Prop := derivPathsRow.holds Try.pinned (OpenSpec.ofChange derivPathsSpec)

/-- ITS FALSE NEIGHBOUR: 'it returns false'. Refute it at one input. -/
def derivPathsWrong : ChangeSpec := { name := "derivPaths", fn := fun _ => fun
  | [d1, d2] => { results := [.lit (.bool false)], args := [d1, d2] }
  | _ => none }
def DerivPathsWrongFalsely : Prop := derivPathsRow.holds Try.pinned (OpenSpec.ofChange derivPathsWrong)

/-- 'transhiplaw12.DerivTable': WHATEVER THE INPUT: true; the input reads as it did. -/
def derivTableSpec : ChangeSpec := { name := "derivTable", fn := fun _ => fun
  | [d1, d2, d3] => { results := [.lit (.bool true)], args := [d1, d2, d3] }
  | _ => none }
def derivTableRow : OpenClaim := { program := "yteaglcbnkephgaa", sum := "1033bc0de7eea70d89aa0f8386c313f7432198a7b95e38ca0a772bc705a09c70", func := "tranship/transhiplaw12.DerivTable", spec := "derivTable", recurses := true, apart := false }
def DerivTableSaid : Prop := derivTableRow.holds Try.pinned (OpenSpec.ofChange derivTableSpec)

/-- ITS FALSE NEIGHBOUR: 'it returns false'. Refute it at one input. -/
def derivTableWrong : ChangeSpec := { name := "derivTable", fn := fun _ => fun
  | [d1, d2, d3] => { results := [.lit (.bool false)], args := [d1, d2, d3] }
  | _ => none }
def DerivTableWrongFalsely : Prop := derivTableRow.holds Try.pinned (OpenSpec.ofChange derivTableWrong)

/-- 'transhiplaw12.DerivSame': WHATEVER THE INPUT: true; the input reads as it did. -/
def derivSameSpec : ChangeSpec := { name := "derivSame", fn := fun _ => fun
  | [d1, d2] => { results := [.lit (.bool true)], args := [d1, d2] }
  | _ => none }
def derivSameRow : OpenClaim := { program := "yteaglcbnkephgaa", sum := "1033bc0de7eea70d89aa0f8386c313f7432198a7b95e38ca0a772bc705a09c70", func := "tranship/transhiplaw12.DerivSame", spec := "derivSame", recurses := true, loops := true, apart := false }
def DerivSameSaid : Prop := derivSameRow.holds Try.pinned (OpenSpec.ofChange derivSameSpec)

/-- ITS FALSE NEIGHBOUR: 'it returns false'. Refute it at one input. -/
def derivSameWrong : ChangeSpec := { name := "derivSame", fn := fun _ => fun
  | [d1, d2] => { results := [.lit (.bool false)], args := [d1, d2] }
  | _ => none }
def DerivSameWrongFalsely : Prop := derivSameRow.holds Try.pinned (OpenSpec.ofChange derivSameWrong)

/-- 'transhiplaw04.TermTable': WHATEVER THE INPUT: true; the input reads as it did. -/
def termTableSpec : ChangeSpec := { name := "termTable", fn := fun _ => fun
  | [d1, d2, d3] => { results := [.lit (.bool true)], args := [d1, d2, d3] }
  | _ => none }
def termTableRow : OpenClaim := { program := "yteaglcbnkephgaa", sum := "1033bc0de7eea70d89aa0f8386c313f7432198a7b95e38ca0a772bc705a09c70", func := "tranship/transhiplaw04.TermTable", spec := "termTable", recurses := true, apart := false }
def TermTableSaid : Prop := termTableRow.holds Try.pinned (OpenSpec.ofChange termTableSpec)

/-- ITS FALSE NEIGHBOUR: 'it returns false'. Refute it at one input. -/
def termTableWrong : ChangeSpec := { name := "termTable", fn := fun _ => fun
  | [d1, d2, d3] => { results := [.lit (.bool false)], args := [d1, d2, d3] }
  | _ => none }
def TermTableWrongFalsely : Prop := termTableRow.holds Try.pinned (OpenSpec.ofChange termTableWrong)

/-- 'transhiplaw04.TermSums': WHATEVER THE INPUT: true; the input reads as it did. -/
def termSumsSpec : ChangeSpec := { name := "termSums", fn := fun _ => fun
  | [d] => { results := [.lit (.bool true)], args := [d] }
  | _ => none }
def termSumsRow : OpenClaim := { program := "yteaglcbnkephgaa", sum := "1033bc0de7eea70d89aa0f8386c313f7432198a7b95e38ca0a772bc705a09c70", func := "tranship/transhiplaw04.TermSums", spec := "termSums", recurses := true, loops := true, apart := false }
def TermSumsSaid : Prop := termSumsRow.holds Try.pinned (OpenSpec.ofChange termSumsSpec)

/-- ITS FALSE NEIGHBOUR: 'it returns false'. Refute it at one input. -/
def termSumsWrong : ChangeSpec := { name := "termSums", fn := fun _ => fun
  | [d] => { results := [.lit (.bool false)], args := [d] }
  | _ => none }
def TermSumsWrongFalsely : Prop := termSumsRow.holds Try.pinned (OpenSpec.ofChange termSumsWrong)

/-- 'transhiplaw08.EraseExact': WHATEVER THE INPUT: true; the input reads as it did. -/
def eraseExactSpec : ChangeSpec := { name := "eraseExact", fn := fun _ => fun
  | [d] => { results := [.lit (.bool true)], args := [d] }
  | _ => none }
def eraseExactRow : OpenClaim := { program := "yteaglcbnkephgaa", sum := "1033bc0de7eea70d89aa0f8386c313f7432198a7b95e38ca0a772bc705a09c70", func := "tranship/transhiplaw08.EraseExact", spec := "eraseExact", recurses := true, loops := true, apart := false }
def EraseExactSaid : Prop := eraseExactRow.holds Try.pinned (OpenSpec.ofChange eraseExactSpec)

/-- ITS FALSE NEIGHBOUR: 'it returns false'. Refute it at one input. -/
def eraseExactWrong : ChangeSpec := { name := "eraseExact", fn := fun _ => fun
  | [d] => { results := [.lit (.bool false)], args := [d] }
  | _ => none }
def EraseExactWrongFalsely : Prop := eraseExactRow.holds Try.pinned (OpenSpec.ofChange eraseExactWrong)

/-- 'transhiplaw08.ErasePure': WHATEVER THE INPUT: true; the input reads as it did. -/
def erasePureSpec : ChangeSpec := { name := "erasePure", fn := fun _ => fun
  | [d] => { results := [.lit (.bool true)], args := [d] }
  | _ => none }
def erasePureRow : OpenClaim := { program := "yteaglcbnkephgaa", sum := "1033bc0de7eea70d89aa0f8386c313f7432198a7b95e38ca0a772bc705a09c70", func := "tranship/transhiplaw08.ErasePure", spec := "erasePure", recurses := true, loops := true, apart := false }
def ErasePureSaid : Prop := erasePureRow.holds Try.pinned (OpenSpec.ofChange erasePureSpec)

/-- ITS FALSE NEIGHBOUR: 'it returns false'. Refute it at one input. -/
def erasePureWrong : ChangeSpec := { name := "erasePure", fn := fun _ => fun
  | [d] => { results := [.lit (.bool false)], args := [d] }
  | _ => none }
def ErasePureWrongFalsely : Prop := erasePureRow.holds Try.pinned (OpenSpec.ofChange erasePureWrong)

/-- 'transhiplaw08.RelatedExact': WHATEVER THE INPUT: true; the input reads as it did. -/
def relatedExactSpec : ChangeSpec := { name := "relatedExact", fn := fun _ => fun
  | [d1, d2, d3] => { results := [.lit (.bool true)], args := [d1, d2, d3] }
  | _ => none }
def relatedExactRow : OpenClaim := { program := "yteaglcbnkephgaa", sum := "1033bc0de7eea70d89aa0f8386c313f7432198a7b95e38ca0a772bc705a09c70", func := "tranship/transhiplaw08.RelatedExact", spec := "relatedExact", recurses := true, loops := true, apart := false }
def RelatedExactSaid : Prop := relatedExactRow.holds Try.pinned (OpenSpec.ofChange relatedExactSpec)

/-- ITS FALSE NEIGHBOUR: 'it returns false'. Refute it at one input. -/
def relatedExactWrong : ChangeSpec := { name := "relatedExact", fn := fun _ => fun
  | [d1, d2, d3] => { results := [.lit (.bool false)], args := [d1, d2, d3] }
  | _ => none }
def RelatedExactWrongFalsely : Prop := relatedExactRow.holds Try.pinned (OpenSpec.ofChange relatedExactWrong)

/-- 'transhiplaw08.RelatedMoved': WHATEVER THE INPUT: true; the input reads as it did. -/
def relatedMovedSpec : ChangeSpec := { name := "relatedMoved", fn := fun _ => fun
  | [d1, d2, d3, d4, d5] => { results := [.lit (.bool true)], args := [d1, d2, d3, d4, d5] }
  | _ => none }
def relatedMovedRow : OpenClaim := { program := "yteaglcbnkephgaa", sum := "1033bc0de7eea70d89aa0f8386c313f7432198a7b95e38ca0a772bc705a09c70", func := "tranship/transhiplaw08.RelatedMoved", spec := "relatedMoved", recurses := true, loops := true, apart := false }
def RelatedMovedSaid : Prop := relatedMovedRow.holds Try.pinned (OpenSpec.ofChange relatedMovedSpec)

/-- ITS FALSE NEIGHBOUR: 'it returns false'. Refute it at one input. -/
def relatedMovedWrong : ChangeSpec := { name := "relatedMoved", fn := fun _ => fun
  | [d1, d2, d3, d4, d5] => { results := [.lit (.bool false)], args := [d1, d2, d3, d4, d5] }
  | _ => none }
def RelatedMovedWrongFalsely : Prop := relatedMovedRow.holds Try.pinned (OpenSpec.ofChange relatedMovedWrong)

/-- 'transhiplaw06.StripExact': WHATEVER THE INPUT: true; the input reads as it did. -/
def stripExactSpec : ChangeSpec := { name := "stripExact", fn := fun _ => fun
  | [d] => { results := [.lit (.bool true)], args := [d] }
  | _ => none }
def stripExactRow : OpenClaim := { program := "yteaglcbnkephgaa", sum := "1033bc0de7eea70d89aa0f8386c313f7432198a7b95e38ca0a772bc705a09c70", func := "tranship/transhiplaw06.StripExact", spec := "stripExact", recurses := true, loops := true, apart := false }
def StripExactSaid : Prop := stripExactRow.holds Try.pinned (OpenSpec.ofChange stripExactSpec)

/-- ITS FALSE NEIGHBOUR: 'it returns false'. Refute it at one input. -/
def stripExactWrong : ChangeSpec := { name := "stripExact", fn := fun _ => fun
  | [d] => { results := [.lit (.bool false)], args := [d] }
  | _ => none }
def StripExactWrongFalsely : Prop := stripExactRow.holds Try.pinned (OpenSpec.ofChange stripExactWrong)

/-- 'transhiplaw06.StripPlain': WHATEVER THE INPUT: true; the input reads as it did. -/
def stripPlainSpec : ChangeSpec := { name := "stripPlain", fn := fun _ => fun
  | [d] => { results := [.lit (.bool true)], args := [d] }
  | _ => none }
def stripPlainRow : OpenClaim := { program := "yteaglcbnkephgaa", sum := "1033bc0de7eea70d89aa0f8386c313f7432198a7b95e38ca0a772bc705a09c70", func := "tranship/transhiplaw06.StripPlain", spec := "stripPlain", recurses := true, loops := true, apart := false }
def StripPlainSaid : Prop := stripPlainRow.holds Try.pinned (OpenSpec.ofChange stripPlainSpec)

/-- ITS FALSE NEIGHBOUR: 'it returns false'. Refute it at one input. -/
def stripPlainWrong : ChangeSpec := { name := "stripPlain", fn := fun _ => fun
  | [d] => { results := [.lit (.bool false)], args := [d] }
  | _ => none }
def StripPlainWrongFalsely : Prop := stripPlainRow.holds Try.pinned (OpenSpec.ofChange stripPlainWrong)

/-- 'transhiplaw06.StripMarks': WHATEVER THE INPUT: true; the input reads as it did. -/
def stripMarksSpec : ChangeSpec := { name := "stripMarks", fn := fun _ => fun
  | [d1, d2, d3, d4, d5] => { results := [.lit (.bool true)], args := [d1, d2, d3, d4, d5] }
  | _ => none }
def stripMarksRow : OpenClaim := { program := "yteaglcbnkephgaa", sum := "1033bc0de7eea70d89aa0f8386c313f7432198a7b95e38ca0a772bc705a09c70", func := "tranship/transhiplaw06.StripMarks", spec := "stripMarks", recurses := true, loops := true, apart := false }
def StripMarksSaid : Prop := stripMarksRow.holds Try.pinned (OpenSpec.ofChange stripMarksSpec)

/-- ITS FALSE NEIGHBOUR: 'it returns false'. Refute it at one input. -/
def stripMarksWrong : ChangeSpec := { name := "stripMarks", fn := fun _ => fun
  | [d1, d2, d3, d4, d5] => { results := [.lit (.bool false)], args := [d1, d2, d3, d4, d5] }
  | _ => none }
def StripMarksWrongFalsely : Prop := stripMarksRow.holds Try.pinned (OpenSpec.ofChange stripMarksWrong)

/-- 'transhiplaw04.TermExact': WHATEVER THE INPUT: true; the input reads as it did. -/
def termExactSpec : ChangeSpec := { name := "termExact", fn := fun _ => fun
  | [d] => { results := [.lit (.bool true)], args := [d] }
  | _ => none }
def termExactRow : OpenClaim := { program := "yteaglcbnkephgaa", sum := "1033bc0de7eea70d89aa0f8386c313f7432198a7b95e38ca0a772bc705a09c70", func := "tranship/transhiplaw04.TermExact", spec := "termExact", recurses := true, loops := true, apart := false }
def TermExactSaid : Prop := termExactRow.holds Try.pinned (OpenSpec.ofChange termExactSpec)

/-- ITS FALSE NEIGHBOUR: 'it returns false'. Refute it at one input. -/
def termExactWrong : ChangeSpec := { name := "termExact", fn := fun _ => fun
  | [d] => { results := [.lit (.bool false)], args := [d] }
  | _ => none }
def TermExactWrongFalsely : Prop := termExactRow.holds Try.pinned (OpenSpec.ofChange termExactWrong)

/-- 'transhiplaw04.TermSame': WHATEVER THE INPUT: true; the input reads as it did. -/
def termSameSpec : ChangeSpec := { name := "termSame", fn := fun _ => fun
  | [d1, d2] => { results := [.lit (.bool true)], args := [d1, d2] }
  | _ => none }
def termSameRow : OpenClaim := { program := "yteaglcbnkephgaa", sum := "1033bc0de7eea70d89aa0f8386c313f7432198a7b95e38ca0a772bc705a09c70", func := "tranship/transhiplaw04.TermSame", spec := "termSame", recurses := true, loops := true, apart := false }
def TermSameSaid : Prop := termSameRow.holds Try.pinned (OpenSpec.ofChange termSameSpec)

/-- ITS FALSE NEIGHBOUR: 'it returns false'. Refute it at one input. -/
def termSameWrong : ChangeSpec := { name := "termSame", fn := fun _ => fun
  | [d1, d2] => { results := [.lit (.bool false)], args := [d1, d2] }
  | _ => none }
def TermSameWrongFalsely : Prop := termSameRow.holds Try.pinned (OpenSpec.ofChange termSameWrong)

/-- 'transhiplaw04.TermSorts': WHATEVER THE INPUT: true; the input reads as it did. -/
def termSortsSpec : ChangeSpec := { name := "termSorts", fn := fun _ => fun
  | [d] => { results := [.lit (.bool true)], args := [d] }
  | _ => none }
def termSortsRow : OpenClaim := { program := "yteaglcbnkephgaa", sum := "1033bc0de7eea70d89aa0f8386c313f7432198a7b95e38ca0a772bc705a09c70", func := "tranship/transhiplaw04.TermSorts", spec := "termSorts", recurses := true, loops := true, apart := false }
def TermSortsSaid : Prop := termSortsRow.holds Try.pinned (OpenSpec.ofChange termSortsSpec)

/-- ITS FALSE NEIGHBOUR: 'it returns false'. Refute it at one input. -/
def termSortsWrong : ChangeSpec := { name := "termSorts", fn := fun _ => fun
  | [d] => { results := [.lit (.bool false)], args := [d] }
  | _ => none }
def TermSortsWrongFalsely : Prop := termSortsRow.holds Try.pinned (OpenSpec.ofChange termSortsWrong)

/-- 'transhiplaw05.LiftExact': WHATEVER THE INPUT: true; the input reads as it did. -/
def liftExactSpec : ChangeSpec := { name := "liftExact", fn := fun _ => fun
  | [d1, d2, d3] => { results := [.lit (.bool true)], args := [d1, d2, d3] }
  | _ => none }
def liftExactRow : OpenClaim := { program := "yteaglcbnkephgaa", sum := "1033bc0de7eea70d89aa0f8386c313f7432198a7b95e38ca0a772bc705a09c70", func := "tranship/transhiplaw05.LiftExact", spec := "liftExact", recurses := true, loops := true, apart := false }
def LiftExactSaid : Prop := liftExactRow.holds Try.pinned (OpenSpec.ofChange liftExactSpec)

/-- ITS FALSE NEIGHBOUR: 'it returns false'. Refute it at one input. -/
def liftExactWrong : ChangeSpec := { name := "liftExact", fn := fun _ => fun
  | [d1, d2, d3] => { results := [.lit (.bool false)], args := [d1, d2, d3] }
  | _ => none }
def LiftExactWrongFalsely : Prop := liftExactRow.holds Try.pinned (OpenSpec.ofChange liftExactWrong)

/-- 'transhiplaw05.LiftTwice': WHATEVER THE INPUT: true; the input reads as it did. -/
def liftTwiceSpec : ChangeSpec := { name := "liftTwice", fn := fun _ => fun
  | [d1, d2, d3, d4] => { results := [.lit (.bool true)], args := [d1, d2, d3, d4] }
  | _ => none }
def liftTwiceRow : OpenClaim := { program := "yteaglcbnkephgaa", sum := "1033bc0de7eea70d89aa0f8386c313f7432198a7b95e38ca0a772bc705a09c70", func := "tranship/transhiplaw05.LiftTwice", spec := "liftTwice", recurses := true, loops := true, apart := false }
def LiftTwiceSaid : Prop := liftTwiceRow.holds Try.pinned (OpenSpec.ofChange liftTwiceSpec)

/-- ITS FALSE NEIGHBOUR: 'it returns false'. Refute it at one input. -/
def liftTwiceWrong : ChangeSpec := { name := "liftTwice", fn := fun _ => fun
  | [d1, d2, d3, d4] => { results := [.lit (.bool false)], args := [d1, d2, d3, d4] }
  | _ => none }
def LiftTwiceWrongFalsely : Prop := liftTwiceRow.holds Try.pinned (OpenSpec.ofChange liftTwiceWrong)

/-- 'transhiplaw05.LiftStays': WHATEVER THE INPUT: true; the input reads as it did. -/
def liftStaysSpec : ChangeSpec := { name := "liftStays", fn := fun _ => fun
  | [d1, d2, d3] => { results := [.lit (.bool true)], args := [d1, d2, d3] }
  | _ => none }
def liftStaysRow : OpenClaim := { program := "yteaglcbnkephgaa", sum := "1033bc0de7eea70d89aa0f8386c313f7432198a7b95e38ca0a772bc705a09c70", func := "tranship/transhiplaw05.LiftStays", spec := "liftStays", recurses := true, loops := true, apart := false }
def LiftStaysSaid : Prop := liftStaysRow.holds Try.pinned (OpenSpec.ofChange liftStaysSpec)

/-- ITS FALSE NEIGHBOUR: 'it returns false'. Refute it at one input. -/
def liftStaysWrong : ChangeSpec := { name := "liftStays", fn := fun _ => fun
  | [d1, d2, d3] => { results := [.lit (.bool false)], args := [d1, d2, d3] }
  | _ => none }
def LiftStaysWrongFalsely : Prop := liftStaysRow.holds Try.pinned (OpenSpec.ofChange liftStaysWrong)

/-- 'transhiplaw05.LiftFree': WHATEVER THE INPUT: true; the input reads as it did. -/
def liftFreeSpec : ChangeSpec := { name := "liftFree", fn := fun _ => fun
  | [d1, d2] => { results := [.lit (.bool true)], args := [d1, d2] }
  | _ => none }
def liftFreeRow : OpenClaim := { program := "yteaglcbnkephgaa", sum := "1033bc0de7eea70d89aa0f8386c313f7432198a7b95e38ca0a772bc705a09c70", func := "tranship/transhiplaw05.LiftFree", spec := "liftFree", recurses := true, loops := true, apart := false }
def LiftFreeSaid : Prop := liftFreeRow.holds Try.pinned (OpenSpec.ofChange liftFreeSpec)

/-- ITS FALSE NEIGHBOUR: 'it returns false'. Refute it at one input. -/
def liftFreeWrong : ChangeSpec := { name := "liftFree", fn := fun _ => fun
  | [d1, d2] => { results := [.lit (.bool false)], args := [d1, d2] }
  | _ => none }
def LiftFreeWrongFalsely : Prop := liftFreeRow.holds Try.pinned (OpenSpec.ofChange liftFreeWrong)

/-- 'transhiplaw05.RenameExact': WHATEVER THE INPUT: true; the input reads as it did. -/
def renameExactSpec : ChangeSpec := { name := "renameExact", fn := fun _ => fun
  | [d1, d2] => { results := [.lit (.bool true)], args := [d1, d2] }
  | _ => none }
def renameExactRow : OpenClaim := { program := "yteaglcbnkephgaa", sum := "1033bc0de7eea70d89aa0f8386c313f7432198a7b95e38ca0a772bc705a09c70", func := "tranship/transhiplaw05.RenameExact", spec := "renameExact", recurses := true, loops := true, apart := false }
def RenameExactSaid : Prop := renameExactRow.holds Try.pinned (OpenSpec.ofChange renameExactSpec)

/-- ITS FALSE NEIGHBOUR: 'it returns false'. Refute it at one input. -/
def renameExactWrong : ChangeSpec := { name := "renameExact", fn := fun _ => fun
  | [d1, d2] => { results := [.lit (.bool false)], args := [d1, d2] }
  | _ => none }
def RenameExactWrongFalsely : Prop := renameExactRow.holds Try.pinned (OpenSpec.ofChange renameExactWrong)

/-- 'transhiplaw05.RenameLifts': WHATEVER THE INPUT: true; the input reads as it did. -/
def renameLiftsSpec : ChangeSpec := { name := "renameLifts", fn := fun _ => fun
  | [d1, d2, d3] => { results := [.lit (.bool true)], args := [d1, d2, d3] }
  | _ => none }
def renameLiftsRow : OpenClaim := { program := "yteaglcbnkephgaa", sum := "1033bc0de7eea70d89aa0f8386c313f7432198a7b95e38ca0a772bc705a09c70", func := "tranship/transhiplaw05.RenameLifts", spec := "renameLifts", recurses := true, loops := true, apart := false }
def RenameLiftsSaid : Prop := renameLiftsRow.holds Try.pinned (OpenSpec.ofChange renameLiftsSpec)

/-- ITS FALSE NEIGHBOUR: 'it returns false'. Refute it at one input. -/
def renameLiftsWrong : ChangeSpec := { name := "renameLifts", fn := fun _ => fun
  | [d1, d2, d3] => { results := [.lit (.bool false)], args := [d1, d2, d3] }
  | _ => none }
def RenameLiftsWrongFalsely : Prop := renameLiftsRow.holds Try.pinned (OpenSpec.ofChange renameLiftsWrong)

/-- 'transhiplaw06.StripLift': WHATEVER THE INPUT: true; the input reads as it did. -/
def stripLiftSpec : ChangeSpec := { name := "stripLift", fn := fun _ => fun
  | [d1, d2, d3] => { results := [.lit (.bool true)], args := [d1, d2, d3] }
  | _ => none }
def stripLiftRow : OpenClaim := { program := "yteaglcbnkephgaa", sum := "1033bc0de7eea70d89aa0f8386c313f7432198a7b95e38ca0a772bc705a09c70", func := "tranship/transhiplaw06.StripLift", spec := "stripLift", recurses := true, loops := true, apart := false }
def StripLiftSaid : Prop := stripLiftRow.holds Try.pinned (OpenSpec.ofChange stripLiftSpec)

/-- ITS FALSE NEIGHBOUR: 'it returns false'. Refute it at one input. -/
def stripLiftWrong : ChangeSpec := { name := "stripLift", fn := fun _ => fun
  | [d1, d2, d3] => { results := [.lit (.bool false)], args := [d1, d2, d3] }
  | _ => none }
def StripLiftWrongFalsely : Prop := stripLiftRow.holds Try.pinned (OpenSpec.ofChange stripLiftWrong)

/-- 'transhiplaw07.PutExact': WHATEVER THE INPUT: true; the input reads as it did. -/
def putExactSpec : ChangeSpec := { name := "putExact", fn := fun _ => fun
  | [d1, d2] => { results := [.lit (.bool true)], args := [d1, d2] }
  | _ => none }
def putExactRow : OpenClaim := { program := "yteaglcbnkephgaa", sum := "1033bc0de7eea70d89aa0f8386c313f7432198a7b95e38ca0a772bc705a09c70", func := "tranship/transhiplaw07.PutExact", spec := "putExact", recurses := true, loops := true, apart := false }
def PutExactSaid : Prop := putExactRow.holds Try.pinned (OpenSpec.ofChange putExactSpec)

/-- ITS FALSE NEIGHBOUR: 'it returns false'. Refute it at one input. -/
def putExactWrong : ChangeSpec := { name := "putExact", fn := fun _ => fun
  | [d1, d2] => { results := [.lit (.bool false)], args := [d1, d2] }
  | _ => none }
def PutExactWrongFalsely : Prop := putExactRow.holds Try.pinned (OpenSpec.ofChange putExactWrong)

/-- 'transhiplaw07.PutStrip': WHATEVER THE INPUT: true; the input reads as it did. -/
def putStripSpec : ChangeSpec := { name := "putStrip", fn := fun _ => fun
  | [d1, d2] => { results := [.lit (.bool true)], args := [d1, d2] }
  | _ => none }
def putStripRow : OpenClaim := { program := "yteaglcbnkephgaa", sum := "1033bc0de7eea70d89aa0f8386c313f7432198a7b95e38ca0a772bc705a09c70", func := "tranship/transhiplaw07.PutStrip", spec := "putStrip", recurses := true, loops := true, apart := false }
def PutStripSaid : Prop := putStripRow.holds Try.pinned (OpenSpec.ofChange putStripSpec)

/-- ITS FALSE NEIGHBOUR: 'it returns false'. Refute it at one input. -/
def putStripWrong : ChangeSpec := { name := "putStrip", fn := fun _ => fun
  | [d1, d2] => { results := [.lit (.bool false)], args := [d1, d2] }
  | _ => none }
def PutStripWrongFalsely : Prop := putStripRow.holds Try.pinned (OpenSpec.ofChange putStripWrong)

/-- 'transhiplaw07.PutFree': WHATEVER THE INPUT: true; the input reads as it did. -/
def putFreeSpec : ChangeSpec := { name := "putFree", fn := fun _ => fun
  | [d1, d2] => { results := [.lit (.bool true)], args := [d1, d2] }
  | _ => none }
def putFreeRow : OpenClaim := { program := "yteaglcbnkephgaa", sum := "1033bc0de7eea70d89aa0f8386c313f7432198a7b95e38ca0a772bc705a09c70", func := "tranship/transhiplaw07.PutFree", spec := "putFree", recurses := true, loops := true, apart := false }
def PutFreeSaid : Prop := putFreeRow.holds Try.pinned (OpenSpec.ofChange putFreeSpec)

/-- ITS FALSE NEIGHBOUR: 'it returns false'. Refute it at one input. -/
def putFreeWrong : ChangeSpec := { name := "putFree", fn := fun _ => fun
  | [d1, d2] => { results := [.lit (.bool false)], args := [d1, d2] }
  | _ => none }
def PutFreeWrongFalsely : Prop := putFreeRow.holds Try.pinned (OpenSpec.ofChange putFreeWrong)

/-- 'transhiplaw07.AllExact': WHATEVER THE INPUT: true; the input reads as it did. -/
def allExactSpec : ChangeSpec := { name := "allExact", fn := fun _ => fun
  | [d1, d2] => { results := [.lit (.bool true)], args := [d1, d2] }
  | _ => none }
def allExactRow : OpenClaim := { program := "yteaglcbnkephgaa", sum := "1033bc0de7eea70d89aa0f8386c313f7432198a7b95e38ca0a772bc705a09c70", func := "tranship/transhiplaw07.AllExact", spec := "allExact", recurses := true, loops := true, apart := false }
def AllExactSaid : Prop := allExactRow.holds Try.pinned (OpenSpec.ofChange allExactSpec)

/-- ITS FALSE NEIGHBOUR: 'it returns false'. Refute it at one input. -/
def allExactWrong : ChangeSpec := { name := "allExact", fn := fun _ => fun
  | [d1, d2] => { results := [.lit (.bool false)], args := [d1, d2] }
  | _ => none }
def AllExactWrongFalsely : Prop := allExactRow.holds Try.pinned (OpenSpec.ofChange allExactWrong)

/-- 'transhiplaw07.PutAll': WHATEVER THE INPUT: true; the input reads as it did. -/
def putAllSpec : ChangeSpec := { name := "putAll", fn := fun _ => fun
  | [d1, d2] => { results := [.lit (.bool true)], args := [d1, d2] }
  | _ => none }
def putAllRow : OpenClaim := { program := "yteaglcbnkephgaa", sum := "1033bc0de7eea70d89aa0f8386c313f7432198a7b95e38ca0a772bc705a09c70", func := "tranship/transhiplaw07.PutAll", spec := "putAll", recurses := true, loops := true, apart := false }
def PutAllSaid : Prop := putAllRow.holds Try.pinned (OpenSpec.ofChange putAllSpec)

/-- ITS FALSE NEIGHBOUR: 'it returns false'. Refute it at one input. -/
def putAllWrong : ChangeSpec := { name := "putAll", fn := fun _ => fun
  | [d1, d2] => { results := [.lit (.bool false)], args := [d1, d2] }
  | _ => none }
def PutAllWrongFalsely : Prop := putAllRow.holds Try.pinned (OpenSpec.ofChange putAllWrong)

/-- 'transhiplaw07.PutTwice': WHATEVER THE INPUT: true; the input reads as it did. -/
def putTwiceSpec : ChangeSpec := { name := "putTwice", fn := fun _ => fun
  | [d1, d2, d3] => { results := [.lit (.bool true)], args := [d1, d2, d3] }
  | _ => none }
def putTwiceRow : OpenClaim := { program := "yteaglcbnkephgaa", sum := "1033bc0de7eea70d89aa0f8386c313f7432198a7b95e38ca0a772bc705a09c70", func := "tranship/transhiplaw07.PutTwice", spec := "putTwice", recurses := true, loops := true, apart := false }
def PutTwiceSaid : Prop := putTwiceRow.holds Try.pinned (OpenSpec.ofChange putTwiceSpec)

/-- ITS FALSE NEIGHBOUR: 'it returns false'. Refute it at one input. -/
def putTwiceWrong : ChangeSpec := { name := "putTwice", fn := fun _ => fun
  | [d1, d2, d3] => { results := [.lit (.bool false)], args := [d1, d2, d3] }
  | _ => none }
def PutTwiceWrongFalsely : Prop := putTwiceRow.holds Try.pinned (OpenSpec.ofChange putTwiceWrong)

/-- 'transhiplaw07.PutLift': WHATEVER THE INPUT: true; the input reads as it did. -/
def putLiftSpec : ChangeSpec := { name := "putLift", fn := fun _ => fun
  | [d1, d2] => { results := [.lit (.bool true)], args := [d1, d2] }
  | _ => none }
def putLiftRow : OpenClaim := { program := "yteaglcbnkephgaa", sum := "1033bc0de7eea70d89aa0f8386c313f7432198a7b95e38ca0a772bc705a09c70", func := "tranship/transhiplaw07.PutLift", spec := "putLift", recurses := true, loops := true, apart := false }
def PutLiftSaid : Prop := putLiftRow.holds Try.pinned (OpenSpec.ofChange putLiftSpec)

/-- ITS FALSE NEIGHBOUR: 'it returns false'. Refute it at one input. -/
def putLiftWrong : ChangeSpec := { name := "putLift", fn := fun _ => fun
  | [d1, d2] => { results := [.lit (.bool false)], args := [d1, d2] }
  | _ => none }
def PutLiftWrongFalsely : Prop := putLiftRow.holds Try.pinned (OpenSpec.ofChange putLiftWrong)

/-- 'transhiplaw08.EraseGoes': WHATEVER THE INPUT: true; the input reads as it did. -/
def eraseGoesSpec : ChangeSpec := { name := "eraseGoes", fn := fun _ => fun
  | [d1, d2, d3] => { results := [.lit (.bool true)], args := [d1, d2, d3] }
  | _ => none }
def eraseGoesRow : OpenClaim := { program := "yteaglcbnkephgaa", sum := "1033bc0de7eea70d89aa0f8386c313f7432198a7b95e38ca0a772bc705a09c70", func := "tranship/transhiplaw08.EraseGoes", spec := "eraseGoes", recurses := true, loops := true, apart := false }
def EraseGoesSaid : Prop := eraseGoesRow.holds Try.pinned (OpenSpec.ofChange eraseGoesSpec)

/-- ITS FALSE NEIGHBOUR: 'it returns false'. Refute it at one input. -/
def eraseGoesWrong : ChangeSpec := { name := "eraseGoes", fn := fun _ => fun
  | [d1, d2, d3] => { results := [.lit (.bool false)], args := [d1, d2, d3] }
  | _ => none }
def EraseGoesWrongFalsely : Prop := eraseGoesRow.holds Try.pinned (OpenSpec.ofChange eraseGoesWrong)

/- THE SECOND FORM. 'bulk': how many values and letters a reading holds, each counted each time it is reached (what is shared counts as often as it is met; a slice's spare places count too). A statement '..UptoSaid' is the law's where the arguments, and the package variables that the reading takes, are together of bulk at most 1048576: NARROWER than '..Said'. Prove '..Said' where nothing that the law and all that it calls make is longer than what came in: it says more and counts as full. Else prove '..UptoSaid'. A law counts once. -/
mutual
def uptoBulk {H : Type} : DataW H → Nat
  | .lit (.string bytes) => bytes.length + 1
  | .lit _ => 1
  | .nil => 1
  | .ptr d => uptoBulk d + 1
  | .slice elems spare => uptoBulkAll elems + uptoBulkAll spare + 1
  | .agg parts => uptoBulkAll parts + 1
  | .iface _ d => uptoBulk d + 1
  | .map entries => uptoBulkEntries entries + 1
  | .held _ => 1
def uptoBulkAll {H : Type} : List (DataW H) → Nat
  | [] => 0
  | d :: r => uptoBulk d + uptoBulkAll r
def uptoBulkEntries {H : Type} : List (Lit × DataW H) → Nat
  | [] => 0
  | x :: r => uptoBulkEntry x + uptoBulkEntries r
def uptoBulkEntry {H : Type} : Lit × DataW H → Nat
  | (.string bytes, d) => bytes.length + uptoBulk d + 1
  | (_, d) => uptoBulk d + 1
 end
def uptoSmall : (H : Type) → List (DataW H) → Bool := fun _ ds => decide (uptoBulkAll ds ≤ 1048576)
def OpenSpec.upto (s : _root_.Go.ChangeSpec) : _root_.Go.OpenSpec := { _root_.Go.OpenSpec.ofChange s with cond := some uptoSmall }

/-- 'transhiplaw12.DerivExact', WHERE WHAT IT READS IS OF BULK AT MOST 1048576: true; the input reads as it did. -/
def derivExactUptoRow : OpenClaim := { program := "yteaglcbnkephgaa", sum := "1033bc0de7eea70d89aa0f8386c313f7432198a7b95e38ca0a772bc705a09c70", func := "tranship/transhiplaw12.DerivExact", spec := "derivExact", recurses := true, loops := true, apart := false, narrowed := true }
def DerivExactUptoSaid : Prop := derivExactUptoRow.holds Try.pinned (OpenSpec.upto derivExactSpec)

/-- 'transhiplaw12.DerivPaths', WHERE WHAT IT READS IS OF BULK AT MOST 1048576: true; the input reads as it did. -/
def derivPathsUptoRow : OpenClaim := { program := "yteaglcbnkephgaa", sum := "1033bc0de7eea70d89aa0f8386c313f7432198a7b95e38ca0a772bc705a09c70", func := "tranship/transhiplaw12.DerivPaths", spec := "derivPaths", recurses := true, loops := true, apart := false, narrowed := true }
def DerivPathsUptoSaid : Prop := derivPathsUptoRow.holds Try.pinned (OpenSpec.upto derivPathsSpec)

/-- 'transhiplaw12.DerivTable', WHERE WHAT IT READS IS OF BULK AT MOST 1048576: true; the input reads as it did. -/
def derivTableUptoRow : OpenClaim := { program := "yteaglcbnkephgaa", sum := "1033bc0de7eea70d89aa0f8386c313f7432198a7b95e38ca0a772bc705a09c70", func := "tranship/transhiplaw12.DerivTable", spec := "derivTable", recurses := true, apart := false, narrowed := true }
def DerivTableUptoSaid : Prop := derivTableUptoRow.holds Try.pinned (OpenSpec.upto derivTableSpec)

/-- 'transhiplaw12.DerivSame', WHERE WHAT IT READS IS OF BULK AT MOST 1048576: true; the input reads as it did. -/
def derivSameUptoRow : OpenClaim := { program := "yteaglcbnkephgaa", sum := "1033bc0de7eea70d89aa0f8386c313f7432198a7b95e38ca0a772bc705a09c70", func := "tranship/transhiplaw12.DerivSame", spec := "derivSame", recurses := true, loops := true, apart := false, narrowed := true }
def DerivSameUptoSaid : Prop := derivSameUptoRow.holds Try.pinned (OpenSpec.upto derivSameSpec)

/-- 'transhiplaw04.TermTable', WHERE WHAT IT READS IS OF BULK AT MOST 1048576: true; the input reads as it did. -/
def termTableUptoRow : OpenClaim := { program := "yteaglcbnkephgaa", sum := "1033bc0de7eea70d89aa0f8386c313f7432198a7b95e38ca0a772bc705a09c70", func := "tranship/transhiplaw04.TermTable", spec := "termTable", recurses := true, apart := false, narrowed := true }
def TermTableUptoSaid : Prop := termTableUptoRow.holds Try.pinned (OpenSpec.upto termTableSpec)

/-- 'transhiplaw04.TermSums', WHERE WHAT IT READS IS OF BULK AT MOST 1048576: true; the input reads as it did. -/
def termSumsUptoRow : OpenClaim := { program := "yteaglcbnkephgaa", sum := "1033bc0de7eea70d89aa0f8386c313f7432198a7b95e38ca0a772bc705a09c70", func := "tranship/transhiplaw04.TermSums", spec := "termSums", recurses := true, loops := true, apart := false, narrowed := true }
def TermSumsUptoSaid : Prop := termSumsUptoRow.holds Try.pinned (OpenSpec.upto termSumsSpec)

/-- 'transhiplaw08.EraseExact', WHERE WHAT IT READS IS OF BULK AT MOST 1048576: true; the input reads as it did. -/
def eraseExactUptoRow : OpenClaim := { program := "yteaglcbnkephgaa", sum := "1033bc0de7eea70d89aa0f8386c313f7432198a7b95e38ca0a772bc705a09c70", func := "tranship/transhiplaw08.EraseExact", spec := "eraseExact", recurses := true, loops := true, apart := false, narrowed := true }
def EraseExactUptoSaid : Prop := eraseExactUptoRow.holds Try.pinned (OpenSpec.upto eraseExactSpec)

/-- 'transhiplaw08.ErasePure', WHERE WHAT IT READS IS OF BULK AT MOST 1048576: true; the input reads as it did. -/
def erasePureUptoRow : OpenClaim := { program := "yteaglcbnkephgaa", sum := "1033bc0de7eea70d89aa0f8386c313f7432198a7b95e38ca0a772bc705a09c70", func := "tranship/transhiplaw08.ErasePure", spec := "erasePure", recurses := true, loops := true, apart := false, narrowed := true }
def ErasePureUptoSaid : Prop := erasePureUptoRow.holds Try.pinned (OpenSpec.upto erasePureSpec)

/-- 'transhiplaw08.RelatedExact', WHERE WHAT IT READS IS OF BULK AT MOST 1048576: true; the input reads as it did. -/
def relatedExactUptoRow : OpenClaim := { program := "yteaglcbnkephgaa", sum := "1033bc0de7eea70d89aa0f8386c313f7432198a7b95e38ca0a772bc705a09c70", func := "tranship/transhiplaw08.RelatedExact", spec := "relatedExact", recurses := true, loops := true, apart := false, narrowed := true }
def RelatedExactUptoSaid : Prop := relatedExactUptoRow.holds Try.pinned (OpenSpec.upto relatedExactSpec)

/-- 'transhiplaw08.RelatedMoved', WHERE WHAT IT READS IS OF BULK AT MOST 1048576: true; the input reads as it did. -/
def relatedMovedUptoRow : OpenClaim := { program := "yteaglcbnkephgaa", sum := "1033bc0de7eea70d89aa0f8386c313f7432198a7b95e38ca0a772bc705a09c70", func := "tranship/transhiplaw08.RelatedMoved", spec := "relatedMoved", recurses := true, loops := true, apart := false, narrowed := true }
def RelatedMovedUptoSaid : Prop := relatedMovedUptoRow.holds Try.pinned (OpenSpec.upto relatedMovedSpec)

/-- 'transhiplaw06.StripExact', WHERE WHAT IT READS IS OF BULK AT MOST 1048576: true; the input reads as it did. -/
def stripExactUptoRow : OpenClaim := { program := "yteaglcbnkephgaa", sum := "1033bc0de7eea70d89aa0f8386c313f7432198a7b95e38ca0a772bc705a09c70", func := "tranship/transhiplaw06.StripExact", spec := "stripExact", recurses := true, loops := true, apart := false, narrowed := true }
def StripExactUptoSaid : Prop := stripExactUptoRow.holds Try.pinned (OpenSpec.upto stripExactSpec)

/-- 'transhiplaw06.StripPlain', WHERE WHAT IT READS IS OF BULK AT MOST 1048576: true; the input reads as it did. -/
def stripPlainUptoRow : OpenClaim := { program := "yteaglcbnkephgaa", sum := "1033bc0de7eea70d89aa0f8386c313f7432198a7b95e38ca0a772bc705a09c70", func := "tranship/transhiplaw06.StripPlain", spec := "stripPlain", recurses := true, loops := true, apart := false, narrowed := true }
def StripPlainUptoSaid : Prop := stripPlainUptoRow.holds Try.pinned (OpenSpec.upto stripPlainSpec)

/-- 'transhiplaw06.StripMarks', WHERE WHAT IT READS IS OF BULK AT MOST 1048576: true; the input reads as it did. -/
def stripMarksUptoRow : OpenClaim := { program := "yteaglcbnkephgaa", sum := "1033bc0de7eea70d89aa0f8386c313f7432198a7b95e38ca0a772bc705a09c70", func := "tranship/transhiplaw06.StripMarks", spec := "stripMarks", recurses := true, loops := true, apart := false, narrowed := true }
def StripMarksUptoSaid : Prop := stripMarksUptoRow.holds Try.pinned (OpenSpec.upto stripMarksSpec)

/-- 'transhiplaw04.TermExact', WHERE WHAT IT READS IS OF BULK AT MOST 1048576: true; the input reads as it did. -/
def termExactUptoRow : OpenClaim := { program := "yteaglcbnkephgaa", sum := "1033bc0de7eea70d89aa0f8386c313f7432198a7b95e38ca0a772bc705a09c70", func := "tranship/transhiplaw04.TermExact", spec := "termExact", recurses := true, loops := true, apart := false, narrowed := true }
def TermExactUptoSaid : Prop := termExactUptoRow.holds Try.pinned (OpenSpec.upto termExactSpec)

/-- 'transhiplaw04.TermSame', WHERE WHAT IT READS IS OF BULK AT MOST 1048576: true; the input reads as it did. -/
def termSameUptoRow : OpenClaim := { program := "yteaglcbnkephgaa", sum := "1033bc0de7eea70d89aa0f8386c313f7432198a7b95e38ca0a772bc705a09c70", func := "tranship/transhiplaw04.TermSame", spec := "termSame", recurses := true, loops := true, apart := false, narrowed := true }
def TermSameUptoSaid : Prop := termSameUptoRow.holds Try.pinned (OpenSpec.upto termSameSpec)

/-- 'transhiplaw04.TermSorts', WHERE WHAT IT READS IS OF BULK AT MOST 1048576: true; the input reads as it did. -/
def termSortsUptoRow : OpenClaim := { program := "yteaglcbnkephgaa", sum := "1033bc0de7eea70d89aa0f8386c313f7432198a7b95e38ca0a772bc705a09c70", func := "tranship/transhiplaw04.TermSorts", spec := "termSorts", recurses := true, loops := true, apart := false, narrowed := true }
def TermSortsUptoSaid : Prop := termSortsUptoRow.holds Try.pinned (OpenSpec.upto termSortsSpec)

/-- 'transhiplaw05.LiftExact', WHERE WHAT IT READS IS OF BULK AT MOST 1048576: true; the input reads as it did. -/
def liftExactUptoRow : OpenClaim := { program := "yteaglcbnkephgaa", sum := "1033bc0de7eea70d89aa0f8386c313f7432198a7b95e38ca0a772bc705a09c70", func := "tranship/transhiplaw05.LiftExact", spec := "liftExact", recurses := true, loops := true, apart := false, narrowed := true }
def LiftExactUptoSaid : Prop := liftExactUptoRow.holds Try.pinned (OpenSpec.upto liftExactSpec)

/-- 'transhiplaw05.LiftTwice', WHERE WHAT IT READS IS OF BULK AT MOST 1048576: true; the input reads as it did. -/
def liftTwiceUptoRow : OpenClaim := { program := "yteaglcbnkephgaa", sum := "1033bc0de7eea70d89aa0f8386c313f7432198a7b95e38ca0a772bc705a09c70", func := "tranship/transhiplaw05.LiftTwice", spec := "liftTwice", recurses := true, loops := true, apart := false, narrowed := true }
def LiftTwiceUptoSaid : Prop := liftTwiceUptoRow.holds Try.pinned (OpenSpec.upto liftTwiceSpec)

/-- 'transhiplaw05.LiftStays', WHERE WHAT IT READS IS OF BULK AT MOST 1048576: true; the input reads as it did. -/
def liftStaysUptoRow : OpenClaim := { program := "yteaglcbnkephgaa", sum := "1033bc0de7eea70d89aa0f8386c313f7432198a7b95e38ca0a772bc705a09c70", func := "tranship/transhiplaw05.LiftStays", spec := "liftStays", recurses := true, loops := true, apart := false, narrowed := true }
def LiftStaysUptoSaid : Prop := liftStaysUptoRow.holds Try.pinned (OpenSpec.upto liftStaysSpec)

/-- 'transhiplaw05.LiftFree', WHERE WHAT IT READS IS OF BULK AT MOST 1048576: true; the input reads as it did. -/
def liftFreeUptoRow : OpenClaim := { program := "yteaglcbnkephgaa", sum := "1033bc0de7eea70d89aa0f8386c313f7432198a7b95e38ca0a772bc705a09c70", func := "tranship/transhiplaw05.LiftFree", spec := "liftFree", recurses := true, loops := true, apart := false, narrowed := true }
def LiftFreeUptoSaid : Prop := liftFreeUptoRow.holds Try.pinned (OpenSpec.upto liftFreeSpec)

/-- 'transhiplaw05.RenameExact', WHERE WHAT IT READS IS OF BULK AT MOST 1048576: true; the input reads as it did. -/
def renameExactUptoRow : OpenClaim := { program := "yteaglcbnkephgaa", sum := "1033bc0de7eea70d89aa0f8386c313f7432198a7b95e38ca0a772bc705a09c70", func := "tranship/transhiplaw05.RenameExact", spec := "renameExact", recurses := true, loops := true, apart := false, narrowed := true }
def RenameExactUptoSaid : Prop := renameExactUptoRow.holds Try.pinned (OpenSpec.upto renameExactSpec)

/-- 'transhiplaw05.RenameLifts', WHERE WHAT IT READS IS OF BULK AT MOST 1048576: true; the input reads as it did. -/
def renameLiftsUptoRow : OpenClaim := { program := "yteaglcbnkephgaa", sum := "1033bc0de7eea70d89aa0f8386c313f7432198a7b95e38ca0a772bc705a09c70", func := "tranship/transhiplaw05.RenameLifts", spec := "renameLifts", recurses := true, loops := true, apart := false, narrowed := true }
def RenameLiftsUptoSaid : Prop := renameLiftsUptoRow.holds Try.pinned (OpenSpec.upto renameLiftsSpec)

/-- 'transhiplaw06.StripLift', WHERE WHAT IT READS IS OF BULK AT MOST 1048576: true; the input reads as it did. -/
def stripLiftUptoRow : OpenClaim := { program := "yteaglcbnkephgaa", sum := "1033bc0de7eea70d89aa0f8386c313f7432198a7b95e38ca0a772bc705a09c70", func := "tranship/transhiplaw06.StripLift", spec := "stripLift", recurses := true, loops := true, apart := false, narrowed := true }
def StripLiftUptoSaid : Prop := stripLiftUptoRow.holds Try.pinned (OpenSpec.upto stripLiftSpec)

/-- 'transhiplaw07.PutExact', WHERE WHAT IT READS IS OF BULK AT MOST 1048576: true; the input reads as it did. -/
def putExactUptoRow : OpenClaim := { program := "yteaglcbnkephgaa", sum := "1033bc0de7eea70d89aa0f8386c313f7432198a7b95e38ca0a772bc705a09c70", func := "tranship/transhiplaw07.PutExact", spec := "putExact", recurses := true, loops := true, apart := false, narrowed := true }
def PutExactUptoSaid : Prop := putExactUptoRow.holds Try.pinned (OpenSpec.upto putExactSpec)

/-- 'transhiplaw07.PutStrip', WHERE WHAT IT READS IS OF BULK AT MOST 1048576: true; the input reads as it did. -/
def putStripUptoRow : OpenClaim := { program := "yteaglcbnkephgaa", sum := "1033bc0de7eea70d89aa0f8386c313f7432198a7b95e38ca0a772bc705a09c70", func := "tranship/transhiplaw07.PutStrip", spec := "putStrip", recurses := true, loops := true, apart := false, narrowed := true }
def PutStripUptoSaid : Prop := putStripUptoRow.holds Try.pinned (OpenSpec.upto putStripSpec)

/-- 'transhiplaw07.PutFree', WHERE WHAT IT READS IS OF BULK AT MOST 1048576: true; the input reads as it did. -/
def putFreeUptoRow : OpenClaim := { program := "yteaglcbnkephgaa", sum := "1033bc0de7eea70d89aa0f8386c313f7432198a7b95e38ca0a772bc705a09c70", func := "tranship/transhiplaw07.PutFree", spec := "putFree", recurses := true, loops := true, apart := false, narrowed := true }
def PutFreeUptoSaid : Prop := putFreeUptoRow.holds Try.pinned (OpenSpec.upto putFreeSpec)

/-- 'transhiplaw07.AllExact', WHERE WHAT IT READS IS OF BULK AT MOST 1048576: true; the input reads as it did. -/
def allExactUptoRow : OpenClaim := { program := "yteaglcbnkephgaa", sum := "1033bc0de7eea70d89aa0f8386c313f7432198a7b95e38ca0a772bc705a09c70", func := "tranship/transhiplaw07.AllExact", spec := "allExact", recurses := true, loops := true, apart := false, narrowed := true }
def AllExactUptoSaid : Prop := allExactUptoRow.holds Try.pinned (OpenSpec.upto allExactSpec)

/-- 'transhiplaw07.PutAll', WHERE WHAT IT READS IS OF BULK AT MOST 1048576: true; the input reads as it did. -/
def putAllUptoRow : OpenClaim := { program := "yteaglcbnkephgaa", sum := "1033bc0de7eea70d89aa0f8386c313f7432198a7b95e38ca0a772bc705a09c70", func := "tranship/transhiplaw07.PutAll", spec := "putAll", recurses := true, loops := true, apart := false, narrowed := true }
def PutAllUptoSaid : Prop := putAllUptoRow.holds Try.pinned (OpenSpec.upto putAllSpec)

/-- 'transhiplaw07.PutTwice', WHERE WHAT IT READS IS OF BULK AT MOST 1048576: true; the input reads as it did. -/
def putTwiceUptoRow : OpenClaim := { program := "yteaglcbnkephgaa", sum := "1033bc0de7eea70d89aa0f8386c313f7432198a7b95e38ca0a772bc705a09c70", func := "tranship/transhiplaw07.PutTwice", spec := "putTwice", recurses := true, loops := true, apart := false, narrowed := true }
def PutTwiceUptoSaid : Prop := putTwiceUptoRow.holds Try.pinned (OpenSpec.upto putTwiceSpec)

/-- 'transhiplaw07.PutLift', WHERE WHAT IT READS IS OF BULK AT MOST 1048576: true; the input reads as it did. -/
def putLiftUptoRow : OpenClaim := { program := "yteaglcbnkephgaa", sum := "1033bc0de7eea70d89aa0f8386c313f7432198a7b95e38ca0a772bc705a09c70", func := "tranship/transhiplaw07.PutLift", spec := "putLift", recurses := true, loops := true, apart := false, narrowed := true }
def PutLiftUptoSaid : Prop := putLiftUptoRow.holds Try.pinned (OpenSpec.upto putLiftSpec)

/-- 'transhiplaw08.EraseGoes', WHERE WHAT IT READS IS OF BULK AT MOST 1048576: true; the input reads as it did. -/
def eraseGoesUptoRow : OpenClaim := { program := "yteaglcbnkephgaa", sum := "1033bc0de7eea70d89aa0f8386c313f7432198a7b95e38ca0a772bc705a09c70", func := "tranship/transhiplaw08.EraseGoes", spec := "eraseGoes", recurses := true, loops := true, apart := false, narrowed := true }
def EraseGoesUptoSaid : Prop := eraseGoesUptoRow.holds Try.pinned (OpenSpec.upto eraseGoesSpec)

end Rows
end Go.Proofs.Yteaglcbnkephgaa
