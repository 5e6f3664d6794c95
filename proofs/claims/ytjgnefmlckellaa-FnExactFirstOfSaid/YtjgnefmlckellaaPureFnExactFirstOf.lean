/- FirstOf returns what the reference's FirstOf returns, in memory of its own, and leaves its arguments as they were, for all arguments; no condition. -/
import Derived.Test.YtjgnefmlckellaaPFnExactFirstOfx1
import Derived.Test.YtjgnefmlckellaaLib
set_option linter.unusedVariables false
set_option linter.unusedSimpArgs false
namespace Go.Proofs.Ytjgnefmlckellaa.Pure
open Go.RowKit Go.Proofs.Ytjgnefmlckellaa.PFnExactFirstOf Go.Proofs.YtjgnefmlckellaaW.PrintWords Go.Proofs.YtjgnefmlckellaaW.PrintLast Go.Proofs.YtjgnefmlckellaaW.PrintMore Go.Proofs.Ytjgnefmlckellaa.Lib

theorem spec_l1In_v (a b c : Int) : spec_l1In.f a b c = some (decide (b ≤ a ∧ a ≤ c)) := by
  unfold spec_l1In.f
  by_cases h : b ≤ a
  · rw [if_pos h]; simp [h]
  · rw [if_neg h]; simp [h]

theorem impl_within_v (a b c : Int) : impl_within.f a b c = some (decide (b ≤ a ∧ a ≤ c)) := by
  unfold impl_within.f
  by_cases h : b ≤ a
  · rw [if_pos h]; simp [h]
  · rw [if_neg h]; simp [h]

theorem spec_SetOk_v (a : Int) : spec_SetOk.f a = some (decide (0 ≤ a ∧ a ≤ 1099511627775)) := by
  unfold spec_SetOk.f; rw [spec_l1In_v]; rfl

theorem impl_SetOk_v (a : Int) : impl_SetOk.f a = some (decide (0 ≤ a ∧ a ≤ 1099511627775)) := by
  unfold impl_SetOk.f; rw [impl_within_v]; rfl

theorem impl_isPlace_v (a : Int) : impl_isPlace.f a = some (decide (0 ≤ a ∧ a ≤ 39)) := by
  unfold impl_isPlace.f; rw [impl_within_v]; rfl

theorem spec_InSet_v (s i : Int) : spec_InSet.f s i = some (inSet s i) := by
  unfold spec_InSet.f inSet
  rw [spec_SetOk_v, Option.bind_some]
  by_cases h : 0 ≤ s ∧ s ≤ 1099511627775
  · rw [decide_eq_true h, if_pos rfl, spec_l1In_v, Option.bind_some]
    by_cases h1 : 0 ≤ i ∧ i ≤ 39
    · rw [decide_eq_true h1, if_pos rfl, if_pos h1.1]
      simp [setOk, h, bitAt]
    · rw [decide_eq_false h1, if_neg (by decide)]; simp
  · rw [decide_eq_false h, if_neg (by decide)]; simp [setOk, h]

theorem impl_InSet_v (s i : Int) : impl_InSet.f s i = some (inSet s i) := by
  unfold impl_InSet.f inSet
  rw [impl_SetOk_v, Option.bind_some]
  by_cases h : 0 ≤ s ∧ s ≤ 1099511627775
  · rw [decide_eq_true h, if_pos rfl, impl_isPlace_v, Option.bind_some]
    by_cases h1 : 0 ≤ i ∧ i ≤ 39
    · rw [decide_eq_true h1, if_pos rfl, if_pos h1.1]
      simp [setOk, h, bitAt]
    · rw [decide_eq_false h1, if_neg (by decide)]; simp
  · rw [decide_eq_false h, if_neg (by decide)]; simp [setOk, h]

theorem impl_PartsIn_l (s : Int) (d : Nat) : ∀ (k : Nat) (acc : List Int), d ≤ 40 → acc.length ≤ 40 - d → d < k → impl_PartsIn.l0 k s acc (40 - (d : Int)) = some (acc ++ partsFrom s d) := by
  induction d with
  | zero =>
    intro k acc hd ha hk
    obtain ⟨k, rfl⟩ : ∃ m, k = m + 1 := ⟨k - 1, by omega⟩
    simp only [impl_PartsIn.l0]
    rw [if_neg (by omega)]; simp [partsFrom]
  | succ d ih =>
    intro k acc hd ha hk
    obtain ⟨k, rfl⟩ : ∃ m, k = m + 1 := ⟨k - 1, by omega⟩
    simp only [impl_PartsIn.l0]
    rw [show (40 : Int) - ((d + 1 : Nat) : Int) = 39 - (d : Int) from by omega]
    rw [if_pos (by omega), impl_InSet_v, Option.bind_some, w64 (by omega) (by omega), show (39 : Int) - (d : Int) + 1 = 40 - (d : Int) from by omega]
    by_cases h : inSet s (39 - (d : Int)) = true
    · rw [if_pos h, if_pos (by omega), ih k _ (by omega) (by simp; omega) (by omega)]
      simp [partsFrom, h]
    · rw [if_neg h, ih k _ (by omega) (by omega) (by omega)]
      simp [partsFrom, h]
theorem impl_PartsIn_v {k : Nat} (s : Int) (hk : 40 < k) : impl_PartsIn.f k s = some (partsIn s) := by
  unfold impl_PartsIn.f
  have h := impl_PartsIn_l s 40 k [] (by omega) (by simp) hk
  rw [show (40 : Int) - ((40 : Nat) : Int) = 0 from by omega, List.nil_append] at h
  exact h

theorem spec_FirstOf_l (s : Int) (d : Nat) : ∀ (k : Nat) (n o : Int), -9223372036854775808 ≤ n → n ≤ 9223372036854775807 → d ≤ 40 → 2 * d + 2 ≤ k → spec_FirstOf.l0 k s n o (40 - (d : Int)) = some (firstFold (partsFrom s d) n o) := by
  induction d with
  | zero =>
    intro k n o h0 h1 hd hk
    obtain ⟨k, rfl⟩ : ∃ m, k = m + 2 := ⟨k - 2, by omega⟩
    simp only [spec_FirstOf.l0]
    rw [if_neg (by omega)]
    simp only [spec_FirstOf.j1]
    simp [partsFrom, firstFold]
  | succ d ih =>
    intro k n o h0 h1 hd hk
    obtain ⟨k, rfl⟩ : ∃ m, k = m + 2 := ⟨k - 2, by omega⟩
    simp only [spec_FirstOf.l0]
    rw [show (40 : Int) - ((d + 1 : Nat) : Int) = 39 - (d : Int) from by omega]
    rw [if_pos (by omega)]
    simp only [spec_FirstOf.j1]
    by_cases hn : n < 1
    · rw [if_neg (by simp; omega)]
      have : firstFold (partsFrom s (d + 1)) n o = o := by
        generalize partsFrom s (d + 1) = l
        cases l with
        | nil => rfl
        | cons i l => simp [firstFold, hn]
      rw [this]
    · rw [if_pos (by simp; omega), spec_InSet_v, Option.bind_some, w64 (x := 39 - (d : Int) + 1) (by omega) (by omega), show (39 : Int) - (d : Int) + 1 = 40 - (d : Int) from by omega]
      by_cases h : inSet s (39 - (d : Int)) = true
      · rw [if_pos h, if_pos (by omega), w64 (by omega) (by omega), ih k _ _ (by omega) (by omega) (by omega) (by omega)]
        simp [partsFrom, h, firstFold, hn]
      · rw [if_neg h, ih k _ _ (by omega) (by omega) (by omega) (by omega)]
        simp [partsFrom, h]
theorem spec_FirstOf_v {k : Nat} (s : Int) {n : Int} (h0 : -9223372036854775808 ≤ n) (h1 : n ≤ 9223372036854775807) (hk : 100 < k) : spec_FirstOf.f k s n = some (firstOf s n) := by
  unfold spec_FirstOf.f
  have h := spec_FirstOf_l s 40 k n 0 h0 h1 (by omega) (by omega)
  rw [show (40 : Int) - ((40 : Nat) : Int) = 0 from by omega] at h
  exact h

theorem impl_FirstOf_l (l : List Int) (hl : l.length ≤ 40) (hp : ∀ x ∈ l, 0 ≤ x ∧ x ≤ 39) (d : Nat) : ∀ (k : Nat) (n o : Int) (i : Nat), -9223372036854775808 ≤ n → n ≤ 9223372036854775807 → i ≤ l.length → l.length - i = d → d < k →
    impl_FirstOf.l0 k n o l (l.length : Int) (i : Int) = some (firstFold (l.drop i) n o) := by
  induction d with
  | zero =>
    intro k n o i h0 h1 hi hd hk
    obtain ⟨k, rfl⟩ : ∃ m, k = m + 1 := ⟨k - 1, by omega⟩
    simp only [impl_FirstOf.l0]
    rw [if_neg (by omega), List.drop_eq_nil_of_le (by omega)]; rfl
  | succ d ih =>
    intro k n o i h0 h1 hi hd hk
    obtain ⟨k, rfl⟩ : ∃ m, k = m + 1 := ⟨k - 1, by omega⟩
    simp only [impl_FirstOf.l0]
    have hx := hp l[i] (List.getElem_mem (by omega))
    rw [if_pos (by omega), if_pos (by omega), if_pos (by omega), rd_at (by omega : i < l.length), wnat (by omega)]
    rw [List.drop_eq_getElem_cons (by omega : i < l.length), firstFold]
    by_cases hn : n < 1
    · rw [if_pos hn, if_pos hn]
    · rw [if_neg hn, if_neg hn, if_pos hx.1, w64 (by omega) (by omega), ih k _ _ (i + 1) (by omega) (by omega) (by omega) (by omega) (by omega)]
theorem impl_FirstOf_v {k : Nat} (s : Int) {n : Int} (h0 : -9223372036854775808 ≤ n) (h1 : n ≤ 9223372036854775807) (hk : 100 < k) : impl_FirstOf.f k s n = some (firstOf s n) := by
  unfold impl_FirstOf.f
  rw [impl_PartsIn_v s (by omega), Option.bind_some]
  have := partsFrom_length s 40
  exact impl_FirstOf_l (partsIn s) this (partsFrom_nn s 40 (by omega)) (partsIn s).length k n 0 0 h0 h1 (by omega) (by omega) (by unfold partsIn; omega)

theorem FnExactFirstOf : laws_FnExactFirstOf.Pure := by
  intro a0 a1 h0 h1
  have h1 := wf_i64 h1
  refine exists_ge 200 _ (fun k hk => ?_)
  unfold laws_FnExactFirstOf.f
  rw [spec_FirstOf_v _ h1.1 h1.2 (by omega), impl_FirstOf_v _ h1.1 h1.2 (by omega)]
  simp

end Go.Proofs.Ytjgnefmlckellaa.Pure
