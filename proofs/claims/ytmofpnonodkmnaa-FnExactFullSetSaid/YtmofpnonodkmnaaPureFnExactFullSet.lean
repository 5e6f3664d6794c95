/- FullSet returns what the reference's FullSet returns, for all arguments; no condition. -/
import Derived.Test.YtmofpnonodkmnaaPFnExactFullSetx1
set_option linter.unusedVariables false
set_option linter.unusedSimpArgs false
namespace Go.Proofs.Ytmofpnonodkmnaa.Pure
open Go.RowKit Go.Proofs.Ytmofpnonodkmnaa.PFnExactFullSet Go.Proofs.YtmofpnonodkmnaaW.PrintWords Go.Proofs.YtmofpnonodkmnaaW.PrintLast Go.Proofs.YtmofpnonodkmnaaW.PrintMore

theorem spec_l1In_v (a b c : Int) : spec_l1In.f a b c = some (decide (b ≤ a ∧ a ≤ c)) := by
  unfold spec_l1In.f
  by_cases h : b ≤ a
  · rw [if_pos h]; simp [h]
  · rw [if_neg h]; simp [h]
theorem impl_within_v (a b c : Int) : impl_within.f a b c = some (decide (b ≤ a ∧ a ≤ c)) := by
  unfold impl_within.f
  by_cases h : b ≤ a
  · rw [if_pos h]; simp [h]
  · rw [if_neg h]; simp [h]

theorem FnExactFullSet : laws_FnExactFullSet.Pure := by
  intro a0 _
  unfold laws_FnExactFullSet.f spec_FullSet.f impl_FullSet.f
  simp only [spec_l1In_v, impl_within_v, Option.bind_some]
  by_cases h : 0 ≤ a0 ∧ a0 ≤ 40 <;> simp [h]

end Go.Proofs.Ytmofpnonodkmnaa.Pure
