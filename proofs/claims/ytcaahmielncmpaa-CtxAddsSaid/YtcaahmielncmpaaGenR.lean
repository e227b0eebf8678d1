/-
  What the rules and their copies compute.
-/
import Derived.Test.YtcaahmielncmpaaGenC
import Derived.Test.YtcaahmielncmpaaGenD
set_option linter.unusedSimpArgs false
set_option linter.unusedVariables false
namespace Go.Proofs.Ytcaahmielncmpaa
open Go Go.RowKit
set_option maxRecDepth 100000
-- tranship/rule.pure
-- tranship/rule.right$1
-- tranship/rule.nothing
-- tranship/rule.right
-- tranship/rule.typed
-- tranship/rule.entry
-- tranship/rule.Premise
-- tranship/transhipref11.rightJudg
-- tranship/transhipref11.same
-- tranship/transhipref11.sort
-- tranship/transhipref11.types
-- tranship/transhipref11.Premise
-- tranship/rule.equal
-- tranship/rule.has
-- tranship/rule.converts
-- (tranship/rule.fam).of
-- (tranship/rule.fam).m
-- tranship/rule.made
-- tranship/rule.family
-- tranship/rule.paired
-- tranship/rule.under
-- tranship/rule.reckoned
-- tranship/rule.alike
-- tranship/rule.typing
-- tranship/rule.conclude
-- tranship/rule.Of
end Go.Proofs.Ytcaahmielncmpaa
