/- Most returns what the reference's Most returns, for all arguments; no condition. -/
import Derived.Test.YtmofpnonodkmnaaPFnExactMostx1
set_option linter.unusedVariables false
set_option linter.unusedSimpArgs false
namespace Go.Proofs.Ytmofpnonodkmnaa.Pure
open Go.RowKit Go.Proofs.Ytmofpnonodkmnaa.PFnExactMost Go.Proofs.YtmofpnonodkmnaaW.PrintWords Go.Proofs.YtmofpnonodkmnaaW.PrintLast Go.Proofs.YtmofpnonodkmnaaW.PrintMore

theorem FnExactMost : laws_FnExactMost.Pure := by
  intro a0 a1 _ _
  unfold laws_FnExactMost.f spec_Most.f impl_Most.f mx
  by_cases h : a0 < a1 <;> simp [h]

end Go.Proofs.Ytmofpnonodkmnaa.Pure
