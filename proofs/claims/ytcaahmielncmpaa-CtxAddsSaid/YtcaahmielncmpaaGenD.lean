/-
  What the functions on derivations compute, as plain functions.
-/
import Derived.Test.YtcaahmielncmpaaTypedB
set_option linter.unusedSimpArgs false
set_option linter.unusedVariables false
namespace Go.Proofs.Ytcaahmielncmpaa
open Go Go.RowKit
set_option maxRecDepth 100000
-- tranship/deriv.Kids
-- tranship/deriv.Inner
-- tranship/transhipref11.Kids
-- tranship/transhipref11.Inner
-- tranship/deriv.Equal
-- tranship/transhipref11.Equal
-- tranship/transhipkeep.weighDeriv
-- tranship/transhipkeep.GreatDeriv
-- tranship/deriv.Right
-- tranship/transhipkeep.Ints
-- tranship/transhipkeep.GreatFile
-- tranship/deriv.copied
-- tranship/deriv.At
-- tranship/transhipref11.numbered
-- tranship/transhipref11.Right
end Go.Proofs.Ytcaahmielncmpaa
