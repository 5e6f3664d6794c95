/- Wrap returns what the reference's Wrap returns, for all arguments; no condition. -/
import Derived.Test.YtmofpnonodkmnaaPFnExactWrapx1
set_option linter.unusedVariables false
set_option linter.unusedSimpArgs false
namespace Go.Proofs.Ytmofpnonodkmnaa.Pure
open Go.RowKit Go.Proofs.Ytmofpnonodkmnaa.PFnExactWrap Go.Proofs.YtmofpnonodkmnaaW.PrintWords Go.Proofs.YtmofpnonodkmnaaW.PrintLast Go.Proofs.YtmofpnonodkmnaaW.PrintMore

theorem spec_l1In_v (a b c : Int) : spec_l1In.f a b c = some (decide (b ≤ a ∧ a ≤ c)) := by
  unfold spec_l1In.f
  by_cases h : b ≤ a
  · rw [if_pos h]; simp [h]
  · rw [if_neg h]; simp [h]
theorem impl_within_v (a b c : Int) : impl_within.f a b c = some (decide (b ≤ a ∧ a ≤ c)) := by
  unfold impl_within.f
  by_cases h : b ≤ a
  · rw [if_pos h]; simp [h]
  · rw [if_neg h]; simp [h]

theorem FnExactWrap : laws_FnExactWrap.Pure := by
  intro a0 a1 _ _
  unfold laws_FnExactWrap.f spec_Wrap.f impl_Wrap.f
  simp only [spec_l1In_v, impl_within_v, Option.bind_some]
  by_cases h1 : 1 ≤ a1 ∧ a1 ≤ 1000000000000
  · have h2 : ¬ a1 = 0 := by omega
    simp [h1, h2]
  · simp [h1]

end Go.Proofs.Ytmofpnonodkmnaa.Pure
