/- CountSet returns what the reference's CountSet returns, in memory of its own, and leaves its arguments as they were, for all arguments; no condition. -/
import Derived.Test.YtjgnefmlckellaaPFnExactCountSetx1
import Derived.Test.YtjgnefmlckellaaLib
import Derived.Test.YtjgnefmlckellaaCount
set_option linter.unusedVariables false
set_option linter.unusedSimpArgs false
namespace Go.Proofs.Ytjgnefmlckellaa.Pure
open Go.RowKit Go.Proofs.Ytjgnefmlckellaa.PFnExactCountSet Go.Proofs.YtjgnefmlckellaaW.PrintWords Go.Proofs.YtjgnefmlckellaaW.PrintLast Go.Proofs.YtjgnefmlckellaaW.PrintMore Go.Proofs.Ytjgnefmlckellaa.Lib

theorem spec_l1In_v (a b c : Int) : spec_l1In.f a b c = some (decide (b ≤ a ∧ a ≤ c)) := by
  unfold spec_l1In.f
  by_cases h : b ≤ a
  · rw [if_pos h]; simp [h]
  · rw [if_neg h]; simp [h]

theorem impl_within_v (a b c : Int) : impl_within.f a b c = some (decide (b ≤ a ∧ a ≤ c)) := by
  unfold impl_within.f
  by_cases h : b ≤ a
  · rw [if_pos h]; simp [h]
  · rw [if_neg h]; simp [h]

theorem spec_SetOk_v (a : Int) : spec_SetOk.f a = some (decide (0 ≤ a ∧ a ≤ 1099511627775)) := by
  unfold spec_SetOk.f; rw [spec_l1In_v]; rfl

theorem impl_SetOk_v (a : Int) : impl_SetOk.f a = some (decide (0 ≤ a ∧ a ≤ 1099511627775)) := by
  unfold impl_SetOk.f; rw [impl_within_v]; rfl

theorem spec_InSet_v (s i : Int) : spec_InSet.f s i = some (inSet s i) := by
  unfold spec_InSet.f inSet
  rw [spec_SetOk_v, Option.bind_some]
  by_cases h : 0 ≤ s ∧ s ≤ 1099511627775
  · rw [decide_eq_true h, if_pos rfl, spec_l1In_v, Option.bind_some]
    by_cases h1 : 0 ≤ i ∧ i ≤ 39
    · rw [decide_eq_true h1, if_pos rfl, if_pos h1.1]
      simp [setOk, h, bitAt]
    · rw [decide_eq_false h1, if_neg (by decide)]; simp
  · rw [decide_eq_false h, if_neg (by decide)]; simp [setOk, h]

theorem spec_CountSet_l (s : Int) (d : Nat) : ∀ (k : Nat) (c : Int), d ≤ 40 → 0 ≤ c → c ≤ 40 - d → d < k → spec_CountSet.l0 k s c (40 - (d : Int)) = some (c + ((partsFrom s d).length : Int)) := by
  induction d with
  | zero =>
    intro k c hd h0 h1 hk
    obtain ⟨k, rfl⟩ : ∃ m, k = m + 1 := ⟨k - 1, by omega⟩
    simp only [spec_CountSet.l0]
    rw [if_neg (by omega)]; simp [partsFrom]
  | succ d ih =>
    intro k c hd h0 h1 hk
    obtain ⟨k, rfl⟩ : ∃ m, k = m + 1 := ⟨k - 1, by omega⟩
    simp only [spec_CountSet.l0]
    rw [show (40 : Int) - ((d + 1 : Nat) : Int) = 39 - (d : Int) from by omega]
    rw [if_pos (by omega), spec_InSet_v, Option.bind_some, w64 (x := 39 - (d : Int) + 1) (by omega) (by omega), show (39 : Int) - (d : Int) + 1 = 40 - (d : Int) from by omega]
    by_cases h : inSet s (39 - (d : Int)) = true
    · rw [if_pos h, w64 (by omega) (by omega), ih k _ (by omega) (by omega) (by omega) (by omega)]
      simp [partsFrom, h]; omega
    · rw [if_neg h, ih k _ (by omega) (by omega) (by omega) (by omega)]
      simp [partsFrom, h]
theorem spec_CountSet_v {k : Nat} (s : Int) (hk : 40 < k) : spec_CountSet.f k s = some ((partsIn s).length : Int) := by
  unfold spec_CountSet.f
  have h := spec_CountSet_l s 40 k 0 (by omega) (by omega) (by omega) hk
  rw [show (40 : Int) - ((40 : Nat) : Int) = 0 from by omega, Int.zero_add] at h
  exact h

theorem bits_OnesCount64_v {s : Int} (h0 : 0 ≤ s) (h1 : s ≤ 1099511627775) : bits_OnesCount64.f s = some ((partsIn s).length : Int) := by
  rw [partsIn_len h0 h1]
  obtain ⟨n, rfl⟩ := Int.eq_ofNat_of_zero_le h0
  rw [pop8_one n 0, pop8_one n 8, pop8_one n 16, pop8_one n 24, pop8_one n 32]
  have hn := n5_of n (by omega)
  unfold bits_OnesCount64.f
  have h := ones_at (n / 2 ^ 0 % 256) (n / 2 ^ 8 % 256) (n / 2 ^ 16 % 256) (n / 2 ^ 24 % 256) (n / 2 ^ 32 % 256) (by omega) (by omega) (by omega) (by omega) (by omega) _ _ _ _ _ _ (n : Int) (by rw [← hn]) rfl rfl rfl rfl rfl rfl
  rw [h]

theorem impl_CountSet_v (s : Int) : impl_CountSet.f s = some ((partsIn s).length : Int) := by
  unfold impl_CountSet.f
  rw [impl_SetOk_v, Option.bind_some]
  by_cases h : 0 ≤ s ∧ s ≤ 1099511627775
  · rw [decide_eq_true h, if_pos rfl, IntWalk.u64_in _ ⟨by omega, by omega⟩, bits_OnesCount64_v h.1 h.2]; rfl
  · rw [decide_eq_false h, if_neg (by decide)]
    unfold partsIn
    rw [partsFrom_none h]; rfl

theorem FnExactCountSet : laws_FnExactCountSet.Pure := by
  intro s _
  refine exists_ge 100 _ (fun k hk => ?_)
  unfold laws_FnExactCountSet.f
  rw [spec_CountSet_v s (by omega), impl_CountSet_v]
  simp

end Go.Proofs.Ytjgnefmlckellaa.Pure
