/- Least returns what the reference's Least returns, for all arguments; no condition. -/
import Derived.Test.YtmofpnonodkmnaaPFnExactLeastx1
set_option linter.unusedVariables false
set_option linter.unusedSimpArgs false
namespace Go.Proofs.Ytmofpnonodkmnaa.Pure
open Go.RowKit Go.Proofs.Ytmofpnonodkmnaa.PFnExactLeast Go.Proofs.YtmofpnonodkmnaaW.PrintWords Go.Proofs.YtmofpnonodkmnaaW.PrintLast Go.Proofs.YtmofpnonodkmnaaW.PrintMore

theorem FnExactLeast : laws_FnExactLeast.Pure := by
  intro a0 a1 _ _
  unfold laws_FnExactLeast.f spec_Least.f impl_Least.f mn
  by_cases h : a1 < a0 <;> simp [h]

end Go.Proofs.Ytmofpnonodkmnaa.Pure
