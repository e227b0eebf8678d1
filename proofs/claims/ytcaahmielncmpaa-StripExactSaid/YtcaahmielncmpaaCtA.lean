/-
  Plain facts on what the functions compute.
-/
import Derived.Test.YtcaahmielncmpaaPlV
import Derived.Test.YtcaahmielncmpaaGenC
set_option linter.unusedSimpArgs false
set_option linter.unusedVariables false
namespace Go.Proofs.Ytcaahmielncmpaa
open Go

/-! ## Contexts -/
theorem Ent.eta (e : Ent) : Ent.mk e.a e.i = e := by cases e; rfl
/-! ### right -/
/-! ### at -/
theorem tzero_size : tzero.size = 1 := by simp [tzero, Tm.size, Tm.sizes]
/-! ### same -/
/-! ### twins -/
/-! ### judgments -/
theorem Jd.eta (j : Jd) : Jd.mk j.eq j.u j.v j.a j.i = j := by cases j; rfl
end Go.Proofs.Ytcaahmielncmpaa
