/- SizeOk returns what the reference's SizeOk returns, for all arguments; no condition. -/
import Derived.Test.YtmofpnonodkmnaaPFnExactSizeOkx1
set_option linter.unusedVariables false
set_option linter.unusedSimpArgs false
namespace Go.Proofs.Ytmofpnonodkmnaa.Pure
open Go.RowKit Go.Proofs.Ytmofpnonodkmnaa.PFnExactSizeOk Go.Proofs.YtmofpnonodkmnaaW.PrintWords Go.Proofs.YtmofpnonodkmnaaW.PrintLast Go.Proofs.YtmofpnonodkmnaaW.PrintMore

theorem spec_l1In_v (a b c : Int) : spec_l1In.f a b c = some (decide (b ≤ a ∧ a ≤ c)) := by
  unfold spec_l1In.f
  by_cases h : b ≤ a
  · rw [if_pos h]; simp [h]
  · rw [if_neg h]; simp [h]
theorem impl_within_v (a b c : Int) : impl_within.f a b c = some (decide (b ≤ a ∧ a ≤ c)) := by
  unfold impl_within.f
  by_cases h : b ≤ a
  · rw [if_pos h]; simp [h]
  · rw [if_neg h]; simp [h]

theorem FnExactSizeOk : laws_FnExactSizeOk.Pure := by
  intro a0 a1 _ _
  unfold laws_FnExactSizeOk.f spec_SizeOk.f impl_SizeOk.f
  simp only [spec_l1In_v, impl_within_v, Option.bind_some, Int.mul_comm 40 a0]
  by_cases h : 2 ≤ a0 ∧ a0 ≤ 6 <;> simp [h]

end Go.Proofs.Ytmofpnonodkmnaa.Pure
