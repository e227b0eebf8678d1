/-
  NARROWER THAN 'FOR EVERY INPUT', by the rows' own cells (each row's printed sentence says how): EraseExact: loops · StripExact: loops · LiftExact: loops · PutExact: loops · CtxExact: loops · CtxForms: loops · CtxAdds: loops · CtxSame: loops · PremiseExact: loops · RuleRight: loops · RuleTurned: loops · RuleLevels: loops · CheckMore: loops · CheckParts: loops · CheckLevels: loops · CheckFaults: loops.
  DERIVED. THE GIVEN ROWS OF THIS SEAT. 16 by the template 'for every input the law returns true; each argument reads behind the call as it read before'; 0 by the template 'total and deterministic' (their statements: YtcaahmielncmpaaTotals.lean).
  GIVEN WITH THE SEED: the statements are not yours to turn. If you find one false, say at which input.
  Laid BY PROGRAM, IN A SANDBOX (cutbox-rows.mjs): the forced cells as the released guide's own fill.sh prints them over the translation 9d427cec5747d59a… (all of the seat's roots in one cut). By AI agents, Wed Nov 11 2026. No macro, syntax, notation, axiom, sorry.
-/
import Derived.Test.YtcaahmielncmpaaChecked
import GoSem.Claim
import GoSem.ClaimJoined
import GoSem.ClaimMapViews
import Derived.JoinedTies
import Derived.KernelRfl
namespace Go.Proofs.Ytcaahmielncmpaa
/- THE CELL 'sum', in the pinned program and in every row, IS THE sha256 OF THE DUMP (.gsa) THAT YtcaahmielncmpaaProg.lean LOADS. Nothing in Lean hashes anything: it is a label: what it is worth is what the hold of that sum in a sandbox is worth. -/
noncomputable def Try.pinned : Pinned := { name := "ytcaahmielncmpaa", sum := "9d427cec5747d59a80a3d3e52c75c7757ed45cc146eebe32edba716c68a3efbc", checked := Try.checked }
namespace Rows
def none {H : Type} : Left H := { results := [], args := [] }

/-- 'transhiplaw08.EraseExact': WHATEVER THE INPUT: true; the input reads as it did. -/
def eraseExactSpec : ChangeSpec := { name := "eraseExact", fn := fun _ => fun
  | [d] => { results := [.lit (.bool true)], args := [d] }
  | _ => none }
def eraseExactRow : OpenClaim := { program := "ytcaahmielncmpaa", sum := "9d427cec5747d59a80a3d3e52c75c7757ed45cc146eebe32edba716c68a3efbc", func := "tranship/transhiplaw08.EraseExact", spec := "eraseExact", recurses := true, loops := true, apart := false }
def EraseExactSaid : Prop := eraseExactRow.holds Try.pinned (OpenSpec.ofChange eraseExactSpec)

/-- ITS FALSE NEIGHBOUR: 'it returns false'. Refute it at one input. -/
def eraseExactWrong : ChangeSpec := { name := "eraseExact", fn := fun _ => fun
  | [d] => { results := [.lit (.bool false)], args := [d] }
  | _ => none }
def EraseExactWrongFalsely : Prop := eraseExactRow.holds Try.pinned (OpenSpec.ofChange eraseExactWrong)

/-- 'transhiplaw06.StripExact': WHATEVER THE INPUT: true; the input reads as it did. -/
def stripExactSpec : ChangeSpec := { name := "stripExact", fn := fun _ => fun
  | [d] => { results := [.lit (.bool true)], args := [d] }
  | _ => none }
def stripExactRow : OpenClaim := { program := "ytcaahmielncmpaa", sum := "9d427cec5747d59a80a3d3e52c75c7757ed45cc146eebe32edba716c68a3efbc", func := "tranship/transhiplaw06.StripExact", spec := "stripExact", recurses := true, loops := true, apart := false }
def StripExactSaid : Prop := stripExactRow.holds Try.pinned (OpenSpec.ofChange stripExactSpec)

/-- ITS FALSE NEIGHBOUR: 'it returns false'. Refute it at one input. -/
def stripExactWrong : ChangeSpec := { name := "stripExact", fn := fun _ => fun
  | [d] => { results := [.lit (.bool false)], args := [d] }
  | _ => none }
def StripExactWrongFalsely : Prop := stripExactRow.holds Try.pinned (OpenSpec.ofChange stripExactWrong)

/-- 'transhiplaw05.LiftExact': WHATEVER THE INPUT: true; the input reads as it did. -/
def liftExactSpec : ChangeSpec := { name := "liftExact", fn := fun _ => fun
  | [d1, d2, d3] => { results := [.lit (.bool true)], args := [d1, d2, d3] }
  | _ => none }
def liftExactRow : OpenClaim := { program := "ytcaahmielncmpaa", sum := "9d427cec5747d59a80a3d3e52c75c7757ed45cc146eebe32edba716c68a3efbc", func := "tranship/transhiplaw05.LiftExact", spec := "liftExact", recurses := true, loops := true, apart := false }
def LiftExactSaid : Prop := liftExactRow.holds Try.pinned (OpenSpec.ofChange liftExactSpec)

/-- ITS FALSE NEIGHBOUR: 'it returns false'. Refute it at one input. -/
def liftExactWrong : ChangeSpec := { name := "liftExact", fn := fun _ => fun
  | [d1, d2, d3] => { results := [.lit (.bool false)], args := [d1, d2, d3] }
  | _ => none }
def LiftExactWrongFalsely : Prop := liftExactRow.holds Try.pinned (OpenSpec.ofChange liftExactWrong)

/-- 'transhiplaw07.PutExact': WHATEVER THE INPUT: true; the input reads as it did. -/
def putExactSpec : ChangeSpec := { name := "putExact", fn := fun _ => fun
  | [d1, d2] => { results := [.lit (.bool true)], args := [d1, d2] }
  | _ => none }
def putExactRow : OpenClaim := { program := "ytcaahmielncmpaa", sum := "9d427cec5747d59a80a3d3e52c75c7757ed45cc146eebe32edba716c68a3efbc", func := "tranship/transhiplaw07.PutExact", spec := "putExact", recurses := true, loops := true, apart := false }
def PutExactSaid : Prop := putExactRow.holds Try.pinned (OpenSpec.ofChange putExactSpec)

/-- ITS FALSE NEIGHBOUR: 'it returns false'. Refute it at one input. -/
def putExactWrong : ChangeSpec := { name := "putExact", fn := fun _ => fun
  | [d1, d2] => { results := [.lit (.bool false)], args := [d1, d2] }
  | _ => none }
def PutExactWrongFalsely : Prop := putExactRow.holds Try.pinned (OpenSpec.ofChange putExactWrong)

/-- 'transhiplaw11.CtxExact': WHATEVER THE INPUT: true; the input reads as it did. -/
def ctxExactSpec : ChangeSpec := { name := "ctxExact", fn := fun _ => fun
  | [d1, d2] => { results := [.lit (.bool true)], args := [d1, d2] }
  | _ => none }
def ctxExactRow : OpenClaim := { program := "ytcaahmielncmpaa", sum := "9d427cec5747d59a80a3d3e52c75c7757ed45cc146eebe32edba716c68a3efbc", func := "tranship/transhiplaw11.CtxExact", spec := "ctxExact", recurses := true, loops := true, apart := false }
def CtxExactSaid : Prop := ctxExactRow.holds Try.pinned (OpenSpec.ofChange ctxExactSpec)

/-- ITS FALSE NEIGHBOUR: 'it returns false'. Refute it at one input. -/
def ctxExactWrong : ChangeSpec := { name := "ctxExact", fn := fun _ => fun
  | [d1, d2] => { results := [.lit (.bool false)], args := [d1, d2] }
  | _ => none }
def CtxExactWrongFalsely : Prop := ctxExactRow.holds Try.pinned (OpenSpec.ofChange ctxExactWrong)

/-- 'transhiplaw11.CtxForms': WHATEVER THE INPUT: true; the input reads as it did. -/
def ctxFormsSpec : ChangeSpec := { name := "ctxForms", fn := fun _ => fun
  | [d] => { results := [.lit (.bool true)], args := [d] }
  | _ => none }
def ctxFormsRow : OpenClaim := { program := "ytcaahmielncmpaa", sum := "9d427cec5747d59a80a3d3e52c75c7757ed45cc146eebe32edba716c68a3efbc", func := "tranship/transhiplaw11.CtxForms", spec := "ctxForms", recurses := true, loops := true, apart := false }
def CtxFormsSaid : Prop := ctxFormsRow.holds Try.pinned (OpenSpec.ofChange ctxFormsSpec)

/-- ITS FALSE NEIGHBOUR: 'it returns false'. Refute it at one input. -/
def ctxFormsWrong : ChangeSpec := { name := "ctxForms", fn := fun _ => fun
  | [d] => { results := [.lit (.bool false)], args := [d] }
  | _ => none }
def CtxFormsWrongFalsely : Prop := ctxFormsRow.holds Try.pinned (OpenSpec.ofChange ctxFormsWrong)

/-- 'transhiplaw11.CtxAdds': WHATEVER THE INPUT: true; the input reads as it did. -/
def ctxAddsSpec : ChangeSpec := { name := "ctxAdds", fn := fun _ => fun
  | [d1, d2, d3, d4] => { results := [.lit (.bool true)], args := [d1, d2, d3, d4] }
  | _ => none }
def ctxAddsRow : OpenClaim := { program := "ytcaahmielncmpaa", sum := "9d427cec5747d59a80a3d3e52c75c7757ed45cc146eebe32edba716c68a3efbc", func := "tranship/transhiplaw11.CtxAdds", spec := "ctxAdds", recurses := true, loops := true, apart := false }
def CtxAddsSaid : Prop := ctxAddsRow.holds Try.pinned (OpenSpec.ofChange ctxAddsSpec)

/-- ITS FALSE NEIGHBOUR: 'it returns false'. Refute it at one input. -/
def ctxAddsWrong : ChangeSpec := { name := "ctxAdds", fn := fun _ => fun
  | [d1, d2, d3, d4] => { results := [.lit (.bool false)], args := [d1, d2, d3, d4] }
  | _ => none }
def CtxAddsWrongFalsely : Prop := ctxAddsRow.holds Try.pinned (OpenSpec.ofChange ctxAddsWrong)

/-- 'transhiplaw11.CtxSame': WHATEVER THE INPUT: true; the input reads as it did. -/
def ctxSameSpec : ChangeSpec := { name := "ctxSame", fn := fun _ => fun
  | [d1, d2, d3, d4] => { results := [.lit (.bool true)], args := [d1, d2, d3, d4] }
  | _ => none }
def ctxSameRow : OpenClaim := { program := "ytcaahmielncmpaa", sum := "9d427cec5747d59a80a3d3e52c75c7757ed45cc146eebe32edba716c68a3efbc", func := "tranship/transhiplaw11.CtxSame", spec := "ctxSame", recurses := true, loops := true, apart := false }
def CtxSameSaid : Prop := ctxSameRow.holds Try.pinned (OpenSpec.ofChange ctxSameSpec)

/-- ITS FALSE NEIGHBOUR: 'it returns false'. Refute it at one input. -/
def ctxSameWrong : ChangeSpec := { name := "ctxSame", fn := fun _ => fun
  | [d1, d2, d3, d4] => { results := [.lit (.bool false)], args := [d1, d2, d3, d4] }
  | _ => none }
def CtxSameWrongFalsely : Prop := ctxSameRow.holds Try.pinned (OpenSpec.ofChange ctxSameWrong)

/-- 'transhiplaw15.PremiseExact': WHATEVER THE INPUT: true; the input reads as it did. -/
def premiseExactSpec : ChangeSpec := { name := "premiseExact", fn := fun _ => fun
  | [d1, d2, d3, d4] => { results := [.lit (.bool true)], args := [d1, d2, d3, d4] }
  | _ => none }
def premiseExactRow : OpenClaim := { program := "ytcaahmielncmpaa", sum := "9d427cec5747d59a80a3d3e52c75c7757ed45cc146eebe32edba716c68a3efbc", func := "tranship/transhiplaw15.PremiseExact", spec := "premiseExact", unfollowed := true, recurses := true, loops := true, apart := false }
def PremiseExactSaid : Prop := premiseExactRow.holds Try.pinned (OpenSpec.ofChange premiseExactSpec)

/-- ITS FALSE NEIGHBOUR: 'it returns false'. Refute it at one input. -/
def premiseExactWrong : ChangeSpec := { name := "premiseExact", fn := fun _ => fun
  | [d1, d2, d3, d4] => { results := [.lit (.bool false)], args := [d1, d2, d3, d4] }
  | _ => none }
def PremiseExactWrongFalsely : Prop := premiseExactRow.holds Try.pinned (OpenSpec.ofChange premiseExactWrong)

/-- 'transhiplaw15.RuleRight': WHATEVER THE INPUT: true; the input reads as it did. -/
def ruleRightSpec : ChangeSpec := { name := "ruleRight", fn := fun _ => fun
  | [d1, d2, d3, d4] => { results := [.lit (.bool true)], args := [d1, d2, d3, d4] }
  | _ => none }
def ruleRightRow : OpenClaim := { program := "ytcaahmielncmpaa", sum := "9d427cec5747d59a80a3d3e52c75c7757ed45cc146eebe32edba716c68a3efbc", func := "tranship/transhiplaw15.RuleRight", spec := "ruleRight", unfollowed := true, recurses := true, loops := true, apart := false }
def RuleRightSaid : Prop := ruleRightRow.holds Try.pinned (OpenSpec.ofChange ruleRightSpec)

/-- ITS FALSE NEIGHBOUR: 'it returns false'. Refute it at one input. -/
def ruleRightWrong : ChangeSpec := { name := "ruleRight", fn := fun _ => fun
  | [d1, d2, d3, d4] => { results := [.lit (.bool false)], args := [d1, d2, d3, d4] }
  | _ => none }
def RuleRightWrongFalsely : Prop := ruleRightRow.holds Try.pinned (OpenSpec.ofChange ruleRightWrong)

/-- 'transhiplaw15.RuleTurned': WHATEVER THE INPUT: true; the input reads as it did. -/
def ruleTurnedSpec : ChangeSpec := { name := "ruleTurned", fn := fun _ => fun
  | [d1, d2] => { results := [.lit (.bool true)], args := [d1, d2] }
  | _ => none }
def ruleTurnedRow : OpenClaim := { program := "ytcaahmielncmpaa", sum := "9d427cec5747d59a80a3d3e52c75c7757ed45cc146eebe32edba716c68a3efbc", func := "tranship/transhiplaw15.RuleTurned", spec := "ruleTurned", unfollowed := true, recurses := true, loops := true, apart := false }
def RuleTurnedSaid : Prop := ruleTurnedRow.holds Try.pinned (OpenSpec.ofChange ruleTurnedSpec)

/-- ITS FALSE NEIGHBOUR: 'it returns false'. Refute it at one input. -/
def ruleTurnedWrong : ChangeSpec := { name := "ruleTurned", fn := fun _ => fun
  | [d1, d2] => { results := [.lit (.bool false)], args := [d1, d2] }
  | _ => none }
def RuleTurnedWrongFalsely : Prop := ruleTurnedRow.holds Try.pinned (OpenSpec.ofChange ruleTurnedWrong)

/-- 'transhiplaw15.RuleLevels': WHATEVER THE INPUT: true; the input reads as it did. -/
def ruleLevelsSpec : ChangeSpec := { name := "ruleLevels", fn := fun _ => fun
  | [d1, d2, d3] => { results := [.lit (.bool true)], args := [d1, d2, d3] }
  | _ => none }
def ruleLevelsRow : OpenClaim := { program := "ytcaahmielncmpaa", sum := "9d427cec5747d59a80a3d3e52c75c7757ed45cc146eebe32edba716c68a3efbc", func := "tranship/transhiplaw15.RuleLevels", spec := "ruleLevels", unfollowed := true, recurses := true, loops := true, apart := false }
def RuleLevelsSaid : Prop := ruleLevelsRow.holds Try.pinned (OpenSpec.ofChange ruleLevelsSpec)

/-- ITS FALSE NEIGHBOUR: 'it returns false'. Refute it at one input. -/
def ruleLevelsWrong : ChangeSpec := { name := "ruleLevels", fn := fun _ => fun
  | [d1, d2, d3] => { results := [.lit (.bool false)], args := [d1, d2, d3] }
  | _ => none }
def RuleLevelsWrongFalsely : Prop := ruleLevelsRow.holds Try.pinned (OpenSpec.ofChange ruleLevelsWrong)

/-- 'transhiplaw16.CheckMore': WHATEVER THE INPUT: true; the input reads as it did. -/
def checkMoreSpec : ChangeSpec := { name := "checkMore", fn := fun _ => fun
  | [d1, d2, d3, d4] => { results := [.lit (.bool true)], args := [d1, d2, d3, d4] }
  | _ => none }
def checkMoreRow : OpenClaim := { program := "ytcaahmielncmpaa", sum := "9d427cec5747d59a80a3d3e52c75c7757ed45cc146eebe32edba716c68a3efbc", func := "tranship/transhiplaw16.CheckMore", spec := "checkMore", unfollowed := true, recurses := true, loops := true, apart := false }
def CheckMoreSaid : Prop := checkMoreRow.holds Try.pinned (OpenSpec.ofChange checkMoreSpec)

/-- ITS FALSE NEIGHBOUR: 'it returns false'. Refute it at one input. -/
def checkMoreWrong : ChangeSpec := { name := "checkMore", fn := fun _ => fun
  | [d1, d2, d3, d4] => { results := [.lit (.bool false)], args := [d1, d2, d3, d4] }
  | _ => none }
def CheckMoreWrongFalsely : Prop := checkMoreRow.holds Try.pinned (OpenSpec.ofChange checkMoreWrong)

/-- 'transhiplaw16.CheckParts': WHATEVER THE INPUT: true; the input reads as it did. -/
def checkPartsSpec : ChangeSpec := { name := "checkParts", fn := fun _ => fun
  | [d1, d2] => { results := [.lit (.bool true)], args := [d1, d2] }
  | _ => none }
def checkPartsRow : OpenClaim := { program := "ytcaahmielncmpaa", sum := "9d427cec5747d59a80a3d3e52c75c7757ed45cc146eebe32edba716c68a3efbc", func := "tranship/transhiplaw16.CheckParts", spec := "checkParts", unfollowed := true, recurses := true, loops := true, apart := false }
def CheckPartsSaid : Prop := checkPartsRow.holds Try.pinned (OpenSpec.ofChange checkPartsSpec)

/-- ITS FALSE NEIGHBOUR: 'it returns false'. Refute it at one input. -/
def checkPartsWrong : ChangeSpec := { name := "checkParts", fn := fun _ => fun
  | [d1, d2] => { results := [.lit (.bool false)], args := [d1, d2] }
  | _ => none }
def CheckPartsWrongFalsely : Prop := checkPartsRow.holds Try.pinned (OpenSpec.ofChange checkPartsWrong)

/-- 'transhiplaw16.CheckLevels': WHATEVER THE INPUT: true; the input reads as it did. -/
def checkLevelsSpec : ChangeSpec := { name := "checkLevels", fn := fun _ => fun
  | [d1, d2, d3] => { results := [.lit (.bool true)], args := [d1, d2, d3] }
  | _ => none }
def checkLevelsRow : OpenClaim := { program := "ytcaahmielncmpaa", sum := "9d427cec5747d59a80a3d3e52c75c7757ed45cc146eebe32edba716c68a3efbc", func := "tranship/transhiplaw16.CheckLevels", spec := "checkLevels", unfollowed := true, recurses := true, loops := true, apart := false }
def CheckLevelsSaid : Prop := checkLevelsRow.holds Try.pinned (OpenSpec.ofChange checkLevelsSpec)

/-- ITS FALSE NEIGHBOUR: 'it returns false'. Refute it at one input. -/
def checkLevelsWrong : ChangeSpec := { name := "checkLevels", fn := fun _ => fun
  | [d1, d2, d3] => { results := [.lit (.bool false)], args := [d1, d2, d3] }
  | _ => none }
def CheckLevelsWrongFalsely : Prop := checkLevelsRow.holds Try.pinned (OpenSpec.ofChange checkLevelsWrong)

/-- 'transhiplaw16.CheckFaults': WHATEVER THE INPUT: true; the input reads as it did. -/
def checkFaultsSpec : ChangeSpec := { name := "checkFaults", fn := fun _ => fun
  | [d1, d2] => { results := [.lit (.bool true)], args := [d1, d2] }
  | _ => none }
def checkFaultsRow : OpenClaim := { program := "ytcaahmielncmpaa", sum := "9d427cec5747d59a80a3d3e52c75c7757ed45cc146eebe32edba716c68a3efbc", func := "tranship/transhiplaw16.CheckFaults", spec := "checkFaults", unfollowed := true, recurses := true, loops := true, apart := false }
def CheckFaultsSaid : Prop := checkFaultsRow.holds Try.pinned (OpenSpec.ofChange checkFaultsSpec)

/-- ITS FALSE NEIGHBOUR: 'it returns false'. Refute it at one input. -/
def checkFaultsWrong : ChangeSpec := { name := "checkFaults", fn := fun _ => fun
  | [d1, d2] => { results := [.lit (.bool false)], args := [d1, d2] }
  | _ => none }
def CheckFaultsWrongFalsely : Prop := checkFaultsRow.holds Try.pinned (OpenSpec.ofChange checkFaultsWrong)

/- THE SECOND FORM. 'bulk': how many values and letters a reading holds, each counted each time it is reached (what is shared counts as often as it is met; a slice's spare places count too). A statement '..UptoSaid' is the law's where the arguments, and the package variables that the reading takes, are together of bulk at most 1048576: NARROWER than '..Said'. Prove '..Said' where nothing that the law and all that it calls make is longer than what came in: it says more and counts as full. Else prove '..UptoSaid'. A law counts once. -/
mutual
def uptoBulk {H : Type} : DataW H → Nat
  | .lit (.string bytes) => bytes.length + 1
  | .lit _ => 1
  | .nil => 1
  | .ptr d => uptoBulk d + 1
  | .slice elems spare => uptoBulkAll elems + uptoBulkAll spare + 1
  | .agg parts => uptoBulkAll parts + 1
  | .iface _ d => uptoBulk d + 1
  | .map entries => uptoBulkEntries entries + 1
  | .held _ => 1
def uptoBulkAll {H : Type} : List (DataW H) → Nat
  | [] => 0
  | d :: r => uptoBulk d + uptoBulkAll r
def uptoBulkEntries {H : Type} : List (Lit × DataW H) → Nat
  | [] => 0
  | x :: r => uptoBulkEntry x + uptoBulkEntries r
def uptoBulkEntry {H : Type} : Lit × DataW H → Nat
  | (.string bytes, d) => bytes.length + uptoBulk d + 1
  | (_, d) => uptoBulk d + 1
 end
def uptoSmall : (H : Type) → List (DataW H) → Bool := fun _ ds => decide (uptoBulkAll ds ≤ 1048576)
def OpenSpec.upto (s : _root_.Go.ChangeSpec) : _root_.Go.OpenSpec := { _root_.Go.OpenSpec.ofChange s with cond := some uptoSmall }

/-- 'transhiplaw08.EraseExact', WHERE WHAT IT READS IS OF BULK AT MOST 1048576: true; the input reads as it did. -/
def eraseExactUptoRow : OpenClaim := { program := "ytcaahmielncmpaa", sum := "9d427cec5747d59a80a3d3e52c75c7757ed45cc146eebe32edba716c68a3efbc", func := "tranship/transhiplaw08.EraseExact", spec := "eraseExact", recurses := true, loops := true, apart := false, narrowed := true }
def EraseExactUptoSaid : Prop := eraseExactUptoRow.holds Try.pinned (OpenSpec.upto eraseExactSpec)

/-- 'transhiplaw06.StripExact', WHERE WHAT IT READS IS OF BULK AT MOST 1048576: true; the input reads as it did. -/
def stripExactUptoRow : OpenClaim := { program := "ytcaahmielncmpaa", sum := "9d427cec5747d59a80a3d3e52c75c7757ed45cc146eebe32edba716c68a3efbc", func := "tranship/transhiplaw06.StripExact", spec := "stripExact", recurses := true, loops := true, apart := false, narrowed := true }
def StripExactUptoSaid : Prop := stripExactUptoRow.holds Try.pinned (OpenSpec.upto stripExactSpec)

/-- 'transhiplaw05.LiftExact', WHERE WHAT IT READS IS OF BULK AT MOST 1048576: true; the input reads as it did. -/
def liftExactUptoRow : OpenClaim := { program := "ytcaahmielncmpaa", sum := "9d427cec5747d59a80a3d3e52c75c7757ed45cc146eebe32edba716c68a3efbc", func := "tranship/transhiplaw05.LiftExact", spec := "liftExact", recurses := true, loops := true, apart := false, narrowed := true }
def LiftExactUptoSaid : Prop := liftExactUptoRow.holds Try.pinned (OpenSpec.upto liftExactSpec)

/-- 'transhiplaw07.PutExact', WHERE WHAT IT READS IS OF BULK AT MOST 1048576: true; the input reads as it did. -/
def putExactUptoRow : OpenClaim := { program := "ytcaahmielncmpaa", sum := "9d427cec5747d59a80a3d3e52c75c7757ed45cc146eebe32edba716c68a3efbc", func := "tranship/transhiplaw07.PutExact", spec := "putExact", recurses := true, loops := true, apart := false, narrowed := true }
def PutExactUptoSaid : Prop := putExactUptoRow.holds Try.pinned (OpenSpec.upto putExactSpec)

/-- 'transhiplaw11.CtxExact', WHERE WHAT IT READS IS OF BULK AT MOST 1048576: true; the input reads as it did. -/
def ctxExactUptoRow : OpenClaim := { program := "ytcaahmielncmpaa", sum := "9d427cec5747d59a80a3d3e52c75c7757ed45cc146eebe32edba716c68a3efbc", func := "tranship/transhiplaw11.CtxExact", spec := "ctxExact", recurses := true, loops := true, apart := false, narrowed := true }
def CtxExactUptoSaid : Prop := ctxExactUptoRow.holds Try.pinned (OpenSpec.upto ctxExactSpec)

/-- 'transhiplaw11.CtxForms', WHERE WHAT IT READS IS OF BULK AT MOST 1048576: true; the input reads as it did. -/
def ctxFormsUptoRow : OpenClaim := { program := "ytcaahmielncmpaa", sum := "9d427cec5747d59a80a3d3e52c75c7757ed45cc146eebe32edba716c68a3efbc", func := "tranship/transhiplaw11.CtxForms", spec := "ctxForms", recurses := true, loops := true, apart := false, narrowed := true }
def CtxFormsUptoSaid : Prop := ctxFormsUptoRow.holds Try.pinned (OpenSpec.upto ctxFormsSpec)

/-- 'transhiplaw11.CtxAdds', WHERE WHAT IT READS IS OF BULK AT MOST 1048576: true; the input reads as it did. -/
def ctxAddsUptoRow : OpenClaim := { program := "ytcaahmielncmpaa", sum := "9d427cec5747d59a80a3d3e52c75c7757ed45cc146eebe32edba716c68a3efbc", func := "tranship/transhiplaw11.CtxAdds", spec := "ctxAdds", recurses := true, loops := true, apart := false, narrowed := true }
def CtxAddsUptoSaid : Prop := ctxAddsUptoRow.holds Try.pinned (OpenSpec.upto ctxAddsSpec)

/-- 'transhiplaw11.CtxSame', WHERE WHAT IT READS IS OF BULK AT MOST 1048576: true; the input reads as it did. -/
def ctxSameUptoRow : OpenClaim := { program := "ytcaahmielncmpaa", sum := "9d427cec5747d59a80a3d3e52c75c7757ed45cc146eebe32edba716c68a3efbc", func := "tranship/transhiplaw11.CtxSame", spec := "ctxSame", recurses := true, loops := true, apart := false, narrowed := true }
def CtxSameUptoSaid : Prop := ctxSameUptoRow.holds Try.pinned (OpenSpec.upto ctxSameSpec)

/-- 'transhiplaw15.PremiseExact', WHERE WHAT IT READS IS OF BULK AT MOST 1048576: true; the input reads as it did. -/
def premiseExactUptoRow : OpenClaim := { program := "ytcaahmielncmpaa", sum := "9d427cec5747d59a80a3d3e52c75c7757ed45cc146eebe32edba716c68a3efbc", func := "tranship/transhiplaw15.PremiseExact", spec := "premiseExact", unfollowed := true, recurses := true, loops := true, apart := false, narrowed := true }
def PremiseExactUptoSaid : Prop := premiseExactUptoRow.holds Try.pinned (OpenSpec.upto premiseExactSpec)

/-- 'transhiplaw15.RuleRight', WHERE WHAT IT READS IS OF BULK AT MOST 1048576: true; the input reads as it did. -/
def ruleRightUptoRow : OpenClaim := { program := "ytcaahmielncmpaa", sum := "9d427cec5747d59a80a3d3e52c75c7757ed45cc146eebe32edba716c68a3efbc", func := "tranship/transhiplaw15.RuleRight", spec := "ruleRight", unfollowed := true, recurses := true, loops := true, apart := false, narrowed := true }
def RuleRightUptoSaid : Prop := ruleRightUptoRow.holds Try.pinned (OpenSpec.upto ruleRightSpec)

/-- 'transhiplaw15.RuleTurned', WHERE WHAT IT READS IS OF BULK AT MOST 1048576: true; the input reads as it did. -/
def ruleTurnedUptoRow : OpenClaim := { program := "ytcaahmielncmpaa", sum := "9d427cec5747d59a80a3d3e52c75c7757ed45cc146eebe32edba716c68a3efbc", func := "tranship/transhiplaw15.RuleTurned", spec := "ruleTurned", unfollowed := true, recurses := true, loops := true, apart := false, narrowed := true }
def RuleTurnedUptoSaid : Prop := ruleTurnedUptoRow.holds Try.pinned (OpenSpec.upto ruleTurnedSpec)

/-- 'transhiplaw15.RuleLevels', WHERE WHAT IT READS IS OF BULK AT MOST 1048576: true; the input reads as it did. -/
def ruleLevelsUptoRow : OpenClaim := { program := "ytcaahmielncmpaa", sum := "9d427cec5747d59a80a3d3e52c75c7757ed45cc146eebe32edba716c68a3efbc", func := "tranship/transhiplaw15.RuleLevels", spec := "ruleLevels", unfollowed := true, recurses := true, loops := true, apart := false, narrowed := true }
def RuleLevelsUptoSaid : Prop := ruleLevelsUptoRow.holds Try.pinned (OpenSpec.upto ruleLevelsSpec)

/-- 'transhiplaw16.CheckMore', WHERE WHAT IT READS IS OF BULK AT MOST 1048576: true; the input reads as it did. -/
def checkMoreUptoRow : OpenClaim := { program := "ytcaahmielncmpaa", sum := "9d427cec5747d59a80a3d3e52c75c7757ed45cc146eebe32edba716c68a3efbc", func := "tranship/transhiplaw16.CheckMore", spec := "checkMore", unfollowed := true, recurses := true, loops := true, apart := false, narrowed := true }
def CheckMoreUptoSaid : Prop := checkMoreUptoRow.holds Try.pinned (OpenSpec.upto checkMoreSpec)

/-- 'transhiplaw16.CheckParts', WHERE WHAT IT READS IS OF BULK AT MOST 1048576: true; the input reads as it did. -/
def checkPartsUptoRow : OpenClaim := { program := "ytcaahmielncmpaa", sum := "9d427cec5747d59a80a3d3e52c75c7757ed45cc146eebe32edba716c68a3efbc", func := "tranship/transhiplaw16.CheckParts", spec := "checkParts", unfollowed := true, recurses := true, loops := true, apart := false, narrowed := true }
def CheckPartsUptoSaid : Prop := checkPartsUptoRow.holds Try.pinned (OpenSpec.upto checkPartsSpec)

/-- 'transhiplaw16.CheckLevels', WHERE WHAT IT READS IS OF BULK AT MOST 1048576: true; the input reads as it did. -/
def checkLevelsUptoRow : OpenClaim := { program := "ytcaahmielncmpaa", sum := "9d427cec5747d59a80a3d3e52c75c7757ed45cc146eebe32edba716c68a3efbc", func := "tranship/transhiplaw16.CheckLevels", spec := "checkLevels", unfollowed := true, recurses := true, loops := true, apart := false, narrowed := true }
def CheckLevelsUptoSaid : Prop := checkLevelsUptoRow.holds Try.pinned (OpenSpec.upto checkLevelsSpec)

/-- 'transhiplaw16.CheckFaults', WHERE WHAT IT READS IS OF BULK AT MOST 1048576: true; the input reads as it did. -/
def checkFaultsUptoRow : OpenClaim := { program := "ytcaahmielncmpaa", sum := "9d427cec5747d59a80a3d3e52c75c7757ed45cc146eebe32edba716c68a3efbc", func := "tranship/transhiplaw16.CheckFaults", spec := "checkFaults", unfollowed := true, recurses := true, loops := true, apart := false, narrowed := true }
def CheckFaultsUptoSaid : Prop := checkFaultsUptoRow.holds Try.pinned (OpenSpec.upto checkFaultsSpec)

end Rows
end Go.Proofs.Ytcaahmielncmpaa
