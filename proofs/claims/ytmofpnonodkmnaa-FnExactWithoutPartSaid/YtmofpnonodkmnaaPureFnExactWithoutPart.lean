/- WithoutPart returns what the reference's WithoutPart returns, for all arguments; no condition. -/
import Derived.Test.YtmofpnonodkmnaaPFnExactWithoutPartx1
set_option linter.unusedVariables false
set_option linter.unusedSimpArgs false
namespace Go.Proofs.Ytmofpnonodkmnaa.Pure
open Go.RowKit Go.Proofs.Ytmofpnonodkmnaa.PFnExactWithoutPart Go.Proofs.YtmofpnonodkmnaaW.PrintWords Go.Proofs.YtmofpnonodkmnaaW.PrintLast Go.Proofs.YtmofpnonodkmnaaW.PrintMore

theorem spec_l1In_v (a b c : Int) : spec_l1In.f a b c = some (decide (b ≤ a ∧ a ≤ c)) := by
  unfold spec_l1In.f
  by_cases h : b ≤ a
  · rw [if_pos h]; simp [h]
  · rw [if_neg h]; simp [h]
theorem impl_within_v (a b c : Int) : impl_within.f a b c = some (decide (b ≤ a ∧ a ≤ c)) := by
  unfold impl_within.f
  by_cases h : b ≤ a
  · rw [if_pos h]; simp [h]
  · rw [if_neg h]; simp [h]

theorem spec_SetOk_v (a : Int) : spec_SetOk.f a = some (decide (0 ≤ a ∧ a ≤ 1099511627775)) := by
  unfold spec_SetOk.f; rw [spec_l1In_v]; rfl
theorem impl_SetOk_v (a : Int) : impl_SetOk.f a = some (decide (0 ≤ a ∧ a ≤ 1099511627775)) := by
  unfold impl_SetOk.f; rw [impl_within_v]; rfl

theorem impl_isPlace_v (a : Int) : impl_isPlace.f a = some (decide (0 ≤ a ∧ a ≤ 39)) := by
  unfold impl_isPlace.f; rw [impl_within_v]; rfl

theorem FnExactWithoutPart : laws_FnExactWithoutPart.Pure := by
  intro a0 a1 _ _
  unfold laws_FnExactWithoutPart.f spec_WithoutPart.f impl_WithoutPart.f
  simp only [spec_l1In_v, impl_isPlace_v, spec_SetOk_v, impl_SetOk_v, Option.bind_some]
  by_cases h : 0 ≤ a0 ∧ a0 ≤ 1099511627775
  · by_cases h1 : 0 ≤ a1 ∧ a1 ≤ 39 <;> simp [h, h1]
  · simp [h]

end Go.Proofs.Ytmofpnonodkmnaa.Pure
