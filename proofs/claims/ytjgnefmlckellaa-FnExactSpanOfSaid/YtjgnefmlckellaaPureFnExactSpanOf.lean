/- SpanOf returns what the reference's SpanOf returns, in memory of its own, and leaves its arguments as they were, for all arguments; no condition. -/
import Derived.Test.YtjgnefmlckellaaPFnExactSpanOfx1
import Derived.Test.YtjgnefmlckellaaLib
set_option linter.unusedVariables false
set_option linter.unusedSimpArgs false
namespace Go.Proofs.Ytjgnefmlckellaa.Pure
open Go.RowKit Go.Proofs.Ytjgnefmlckellaa.PFnExactSpanOf Go.Proofs.YtjgnefmlckellaaW.PrintWords Go.Proofs.YtjgnefmlckellaaW.PrintLast Go.Proofs.YtjgnefmlckellaaW.PrintMore Go.Proofs.Ytjgnefmlckellaa.Lib

theorem spec_l1In_v (a b c : Int) : spec_l1In.f a b c = some (decide (b ≤ a ∧ a ≤ c)) := by
  unfold spec_l1In.f
  by_cases h : b ≤ a
  · rw [if_pos h]; simp [h]
  · rw [if_neg h]; simp [h]

theorem impl_within_v (a b c : Int) : impl_within.f a b c = some (decide (b ≤ a ∧ a ≤ c)) := by
  unfold impl_within.f
  by_cases h : b ≤ a
  · rw [if_pos h]; simp [h]
  · rw [if_neg h]; simp [h]

theorem spec_SizeOk_v (s n : Int) : spec_SizeOk.f s n = some (sizeOk s n) := by
  unfold spec_SizeOk.f sizeOk
  rw [spec_l1In_v]
  simp only [Option.bind_some]
  by_cases h : 2 ≤ s ∧ s ≤ 6
  · rw [decide_eq_true h, if_pos rfl, spec_l1In_v, w64 (by omega) (by omega)]
    simp [h]
  · rw [decide_eq_false h, if_neg (by decide)]
    have : ¬ (2 ≤ s ∧ s ≤ 6 ∧ 0 ≤ n ∧ n ≤ s * 40) := fun g => h ⟨g.1, g.2.1⟩
    rw [decide_eq_false this]

theorem impl_SizeOk_v (s n : Int) : impl_SizeOk.f s n = some (sizeOk s n) := by
  unfold impl_SizeOk.f sizeOk
  rw [impl_within_v]
  simp only [Option.bind_some]
  by_cases h : 2 ≤ s ∧ s ≤ 6
  · rw [decide_eq_true h, if_pos rfl, impl_within_v, Int.mul_comm 40 s, w64 (by omega) (by omega)]
    simp [h]
  · rw [decide_eq_false h, if_neg (by decide)]
    have : ¬ (2 ≤ s ∧ s ≤ 6 ∧ 0 ≤ n ∧ n ≤ s * 40) := fun g => h ⟨g.1, g.2.1⟩
    rw [decide_eq_false this]

theorem spec_CeilDiv_v {a b : Int} (h0 : 0 ≤ a) (h1 : a ≤ 1000000000000) (h2 : 1 ≤ b) (h3 : b ≤ 1000000000000) : spec_CeilDiv.f a b = some ((a + b - 1) / b) := by
  unfold spec_CeilDiv.f
  rw [spec_l1In_v, Option.bind_some, decide_eq_true (by omega), if_pos rfl, spec_l1In_v, Option.bind_some, decide_eq_true (by omega), if_pos rfl, if_neg (by omega), w64 (x := a + b) (by omega) (by omega), w64 (x := a + b - 1) (by omega) (by omega), tdiv_nn (by omega)]
  have h4 : 0 ≤ (a + b - 1) / b := Int.ediv_nonneg (by omega) (by omega)
  have h5 : (a + b - 1) / b ≤ a + b - 1 := Int.ediv_le_self _ (by omega)
  rw [w64 (by omega) (by omega)]

theorem impl_CeilDiv_v {a b : Int} (h0 : 0 ≤ a) (h1 : a ≤ 1000000000000) (h2 : 1 ≤ b) (h3 : b ≤ 1000000000000) : impl_CeilDiv.f a b = some ((a + b - 1) / b) := by
  unfold impl_CeilDiv.f
  rw [impl_within_v, Option.bind_some, decide_eq_true (by omega), if_pos rfl, impl_within_v, Option.bind_some, decide_eq_true (by omega), if_pos rfl, if_neg (by omega), w64 (x := a + b) (by omega) (by omega), w64 (x := a + b - 1) (by omega) (by omega), tdiv_nn (by omega)]
  have h4 : 0 ≤ (a + b - 1) / b := Int.ediv_nonneg (by omega) (by omega)
  have h5 : (a + b - 1) / b ≤ a + b - 1 := Int.ediv_le_self _ (by omega)
  rw [w64 (by omega) (by omega)]

theorem spec_Blocks_v (s n : Int) : spec_Blocks.f s n = some (blocks s n) := by
  unfold spec_Blocks.f blocks
  rw [spec_SizeOk_v, Option.bind_some]
  by_cases h : sizeOk s n = true
  · obtain ⟨h0, h1, h2, h3⟩ := sizeOk_iff.1 h
    rw [if_pos h, if_pos h, spec_CeilDiv_v (by omega) (by omega) (by omega) (by omega)]
    rfl
  · rw [if_neg h, if_neg h]

theorem impl_Blocks_v (s n : Int) : impl_Blocks.f s n = some (blocks s n) := by
  unfold impl_Blocks.f blocks
  rw [impl_SizeOk_v, Option.bind_some]
  by_cases h : sizeOk s n = true
  · obtain ⟨h0, h1, h2, h3⟩ := sizeOk_iff.1 h
    rw [if_pos h, if_pos h, impl_CeilDiv_v (by omega) (by omega) (by omega) (by omega)]
    rfl
  · rw [if_neg h, if_neg h]

theorem spec_Least_v (a b : Int) : spec_Least.f a b = some (mn a b) := by
  unfold spec_Least.f mn
  by_cases h : b < a
  · rw [if_pos h, if_pos h]
  · rw [if_neg h, if_neg h]

theorem spec_SpanOf_v (s n i : Int) : spec_SpanOf.f s n i = some (spanOf s n i) := by
  unfold spec_SpanOf.f spanOf
  rw [spec_Blocks_v, Option.bind_some, spec_l1In_v, Option.bind_some]
  have hb := blocks_le s n
  rw [w64 (x := blocks s n - 1) (by omega) (by omega)]
  by_cases h : 0 ≤ i ∧ i ≤ blocks s n - 1
  · obtain ⟨h0, h1, h2, h3, h4, h5, h6⟩ := span_in h.1 h.2
    rw [decide_eq_true h, if_pos rfl, if_pos h, spec_Least_v, Option.bind_some, w64 (x := i * s) (by omega) (by omega), w64 (by omega) (by omega)]
  · rw [decide_eq_false h, if_neg (by decide), if_neg h]

theorem impl_SpanOf_v (s n i : Int) : impl_SpanOf.f s n i = some (spanOf s n i) := by
  unfold impl_SpanOf.f spanOf
  rw [impl_Blocks_v, Option.bind_some, impl_within_v, Option.bind_some]
  have hb := blocks_le s n
  rw [w64 (x := blocks s n - 1) (by omega) (by omega)]
  by_cases h : 0 ≤ i ∧ i ≤ blocks s n - 1
  · obtain ⟨h0, h1, h2, h3, h4, h5, h6⟩ := span_in h.1 h.2
    rw [decide_eq_true h, if_pos rfl, if_pos h, w64 (x := i * s) (by omega) (by omega), w64 (by omega) (by omega)]
  · rw [decide_eq_false h, if_neg (by decide), if_neg h]

theorem FnExactSpanOf : laws_FnExactSpanOf.Pure := by
  intro a0 a1 a2 _ _ _
  unfold laws_FnExactSpanOf.f
  rw [spec_SpanOf_v, impl_SpanOf_v]
  simp

end Go.Proofs.Ytjgnefmlckellaa.Pure
