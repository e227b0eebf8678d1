/-
  What the functions on contexts and judgments compute.
-/
import Derived.Test.YtcaahmielncmpaaGenE
set_option linter.unusedSimpArgs false
set_option linter.unusedVariables false
namespace Go.Proofs.Ytcaahmielncmpaa
open Go Go.RowKit
set_option maxRecDepth 100000
-- tranship/transhipkeep.GreatCtx
-- tranship/ctx.Right
-- tranship/ctx.At
-- tranship/transhipref11.level
-- tranship/transhipref11.RightCtx
-- tranship/transhipref11.At
-- tranship/ctx.Erase
-- tranship/ctx.Plain
-- tranship/transhipkeep.TwinCtx
-- tranship/transhipkeep.Ctx
-- tranship/transhipref11.Erase
-- tranship/transhipref11.Plain
-- tranship/ctx.copied
-- tranship/ctx.Add
-- tranship/transhipkeep.GreatJudgs
-- tranship/ctx.Same
-- tranship/ctx.SameJudg
-- tranship/transhipkeep.Judg
-- tranship/transhipkeep.TwinJudgs
-- tranship/transhipref11.PureCtx
-- tranship/transhipref11.Add
-- tranship/transhipkeep.Zero
end Go.Proofs.Ytcaahmielncmpaa
