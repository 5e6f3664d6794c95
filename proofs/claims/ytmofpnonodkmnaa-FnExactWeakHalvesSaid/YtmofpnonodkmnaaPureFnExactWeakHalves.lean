/- WeakHalves returns what the reference's WeakHalves returns, for all arguments; no condition. -/
import Derived.Test.YtmofpnonodkmnaaPFnExactWeakHalvesx1
set_option linter.unusedVariables false
set_option linter.unusedSimpArgs false
namespace Go.Proofs.Ytmofpnonodkmnaa.Pure
open Go.RowKit Go.Proofs.Ytmofpnonodkmnaa.PFnExactWeakHalves Go.Proofs.YtmofpnonodkmnaaW.PrintWords Go.Proofs.YtmofpnonodkmnaaW.PrintLast Go.Proofs.YtmofpnonodkmnaaW.PrintMore

theorem spec_l1In_v (a b c : Int) : spec_l1In.f a b c = some (decide (b ≤ a ∧ a ≤ c)) := by
  unfold spec_l1In.f
  by_cases h : b ≤ a
  · rw [if_pos h]; simp [h]
  · rw [if_neg h]; simp [h]
theorem impl_within_v (a b c : Int) : impl_within.f a b c = some (decide (b ≤ a ∧ a ≤ c)) := by
  unfold impl_within.f
  by_cases h : b ≤ a
  · rw [if_pos h]; simp [h]
  · rw [if_neg h]; simp [h]

theorem FnExactWeakHalves : laws_FnExactWeakHalves.Pure := by
  intro a0 _
  unfold laws_FnExactWeakHalves.f spec_WeakHalves.f impl_WeakHalves.f spec_l3Ok.f impl_isWeak.f
  simp only [spec_l1In_v, impl_within_v, Option.bind_some]
  by_cases h : 0 ≤ a0 ∧ a0 ≤ 63000 <;> simp [h]

end Go.Proofs.Ytmofpnonodkmnaa.Pure
