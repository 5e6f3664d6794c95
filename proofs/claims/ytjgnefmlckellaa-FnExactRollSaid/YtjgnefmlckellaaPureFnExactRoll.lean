/- Roll returns what the reference's Roll returns, in memory of its own, and leaves its arguments as they were, for all arguments; no condition. -/
import Derived.Test.YtjgnefmlckellaaPFnExactRollx1
import Derived.Test.YtjgnefmlckellaaLib
set_option linter.unusedVariables false
set_option linter.unusedSimpArgs false
namespace Go.Proofs.Ytjgnefmlckellaa.Pure
open Go.RowKit Go.Proofs.Ytjgnefmlckellaa.PFnExactRoll Go.Proofs.YtjgnefmlckellaaW.PrintWords Go.Proofs.YtjgnefmlckellaaW.PrintLast Go.Proofs.YtjgnefmlckellaaW.PrintMore Go.Proofs.Ytjgnefmlckellaa.Lib

theorem spec_l1In_v (a b c : Int) : spec_l1In.f a b c = some (decide (b ≤ a ∧ a ≤ c)) := by
  unfold spec_l1In.f
  by_cases h : b ≤ a
  · rw [if_pos h]; simp [h]
  · rw [if_neg h]; simp [h]

theorem impl_within_v (a b c : Int) : impl_within.f a b c = some (decide (b ≤ a ∧ a ≤ c)) := by
  unfold impl_within.f
  by_cases h : b ≤ a
  · rw [if_pos h]; simp [h]
  · rw [if_neg h]; simp [h]

theorem spec_Wrap_v {a m : Int} (h0 : 1 ≤ m) (h1 : m ≤ 1000000000000) : spec_Wrap.f a m = some (a % m) := by
  unfold spec_Wrap.f
  rw [spec_l1In_v, Option.bind_some, decide_eq_true (by omega), if_pos rfl, if_neg (by omega)]
  have h2 : a.tmod m = a - m * a.tdiv m := by have := Int.mul_tdiv_add_tmod a m; omega
  have h3 : -m < a.tmod m ∧ a.tmod m < m := ⟨by have := Int.lt_tmod_of_pos a (by omega : 0 < m); omega, Int.tmod_lt_of_pos a (by omega)⟩
  rw [w64 (by omega) (by omega), tmod_nn (by omega), Int.add_emod_right, h2, Int.sub_mul_emod_self_left]

theorem impl_Wrap_v {a m : Int} (h0 : 1 ≤ m) (h1 : m ≤ 1000000000000) : impl_Wrap.f a m = some (a % m) := by
  unfold impl_Wrap.f
  rw [impl_within_v, Option.bind_some, decide_eq_true (by omega), if_pos rfl, if_neg (by omega)]
  have h2 : a.tmod m = a - m * a.tdiv m := by have := Int.mul_tdiv_add_tmod a m; omega
  have h3 : -m < a.tmod m ∧ a.tmod m < m := ⟨by have := Int.lt_tmod_of_pos a (by omega : 0 < m); omega, Int.tmod_lt_of_pos a (by omega)⟩
  rw [w64 (by omega) (by omega), tmod_nn (by omega), Int.add_emod_right, h2, Int.sub_mul_emod_self_left]

theorem impl_weak_v (x y : Int) : impl_weak.f x y = some (x % 251 + 251 * (y % 251)) := by
  unfold impl_weak.f
  rw [impl_Wrap_v (by omega) (by omega), impl_Wrap_v (by omega) (by omega)]
  simp only [Option.bind_some]
  rw [w64 (x := 251 * (y % 251)) (by omega) (by omega), w64 (by omega) (by omega)]

theorem spec_l3Ok_v (w : Int) : spec_l3Ok.f w = some (weakOk w) := by
  unfold spec_l3Ok.f weakOk; rw [spec_l1In_v]; rfl

theorem impl_isWeak_v (w : Int) : impl_isWeak.f w = some (weakOk w) := by
  unfold impl_isWeak.f weakOk; rw [impl_within_v]; rfl

theorem impl_isByte_v (a : Int) : impl_isByte.f a = some (decide (0 ≤ a ∧ a ≤ 255)) := by
  unfold impl_isByte.f; rw [impl_within_v]; rfl

theorem spec_WeakHalves_v (w : Int) : spec_WeakHalves.f w = some (weakHalves w) := by
  unfold spec_WeakHalves.f weakHalves
  rw [spec_l3Ok_v, Option.bind_some]
  by_cases h : weakOk w = true
  · have h' : 0 ≤ w ∧ w ≤ 63000 := of_decide_eq_true h
    rw [if_pos h, if_pos h, tmod_nn h'.1, tdiv_nn h'.1, w64 (by omega) (by omega)]
  · rw [if_neg h, if_neg h]

theorem impl_WeakHalves_v (w : Int) : impl_WeakHalves.f w = some (weakHalves w) := by
  unfold impl_WeakHalves.f weakHalves
  rw [impl_isWeak_v, Option.bind_some]
  by_cases h : weakOk w = true
  · have h' : 0 ≤ w ∧ w ≤ 63000 := of_decide_eq_true h
    rw [if_pos h, if_pos h, tmod_nn h'.1, tdiv_nn h'.1, w64 (by omega) (by omega)]
  · rw [if_neg h, if_neg h]

theorem spec_Roll_v {k : Nat} (w n o i : Int) (hk : 1 < k) : spec_Roll.f k w n o i = some (roll w n o i) := by
  obtain ⟨k, rfl⟩ : ∃ m, k = m + 1 := ⟨k - 1, by omega⟩
  unfold spec_Roll.f roll
  simp only [spec_Roll.j0, spec_l3Ok_v, spec_l1In_v, Option.bind_some, weakOk]
  by_cases hw : 0 ≤ w ∧ w ≤ 63000
  · by_cases hn : 1 ≤ n ∧ n ≤ 1000000000000
    · by_cases ho : 0 ≤ o ∧ o ≤ 255
      · by_cases hi : 0 ≤ i ∧ i ≤ 255
        · have hm := roll_bd n w o ho.1 ho.2
          rw [decide_eq_true hw, decide_eq_true hn, decide_eq_true ho, decide_eq_true hi, if_pos rfl, if_pos rfl, if_pos rfl, if_neg (by decide), if_pos ⟨hw.1, hw.2, hn.1, hn.2, ho.1, ho.2, hi.1, hi.2⟩]
          simp only [spec_WeakHalves_v, Option.bind_some, weakHalves, weakOk, decide_eq_true hw, if_true]
          rw [tmod_nn (by omega : 0 ≤ n)]
          generalize n % 251 * o = p at hm ⊢
          rw [w64 (x := p) (by omega) (by omega), w64 (x := w / 251 - p) (by omega) (by omega), w64 (x := w % 251 - o) (by omega) (by omega), w64 (x := w % 251 - o + i) (by omega) (by omega),
            spec_Wrap_v (by omega) (by omega), spec_Wrap_v (by omega) (by omega)]
          simp only [Option.bind_some]
          rw [w64 (x := (w / 251 - p) % 251 + (w % 251 - o + i) % 251) (by omega) (by omega), spec_Wrap_v (by omega) (by omega)]
          simp only [Option.bind_some]
          rw [show ((w / 251 - p) % 251 + (w % 251 - o + i) % 251) % 251 = (w / 251 - p + w % 251 - o + i) % 251 from by omega]
          generalize (w / 251 - p + w % 251 - o + i) = z
          rw [w64 (x := 251 * (z % 251)) (by omega) (by omega), w64 (by omega) (by omega)]
        · rw [decide_eq_true hw, decide_eq_true hn, decide_eq_true ho, decide_eq_false hi, if_pos rfl, if_pos rfl, if_pos rfl, if_pos (by decide), if_neg (by omega)]
      · rw [decide_eq_true hw, decide_eq_true hn, decide_eq_false ho, if_pos rfl, if_pos rfl, if_neg (by decide), if_pos trivial, if_neg (by omega)]
    · rw [decide_eq_true hw, decide_eq_false hn, if_pos rfl, if_neg (by decide), if_pos trivial, if_neg (by omega)]
  · rw [decide_eq_false hw, if_neg (by decide), if_pos trivial, if_neg (by omega)]

theorem impl_Roll_v {k : Nat} (w n o i : Int) (hk : 1 < k) : impl_Roll.f k w n o i = some (roll w n o i) := by
  obtain ⟨k, rfl⟩ : ∃ m, k = m + 1 := ⟨k - 1, by omega⟩
  unfold impl_Roll.f roll
  simp only [impl_Roll.j0, impl_isWeak_v, impl_within_v, impl_isByte_v, Option.bind_some, weakOk]
  by_cases hw : 0 ≤ w ∧ w ≤ 63000
  · by_cases hn : 1 ≤ n ∧ n ≤ 1000000000000
    · by_cases ho : 0 ≤ o ∧ o ≤ 255
      · by_cases hi : 0 ≤ i ∧ i ≤ 255
        · have hm := roll_bd n w o ho.1 ho.2
          rw [decide_eq_true hw, decide_eq_true hn, decide_eq_true ho, decide_eq_true hi, if_pos rfl, if_pos rfl, if_pos rfl, if_neg (by decide), if_pos ⟨hw.1, hw.2, hn.1, hn.2, ho.1, ho.2, hi.1, hi.2⟩]
          simp only [impl_WeakHalves_v, Option.bind_some, weakHalves, weakOk, decide_eq_true hw, if_true]
          rw [tmod_nn (by omega : 0 ≤ n)]
          generalize n % 251 * o = p at hm ⊢
          rw [w64 (x := p) (by omega) (by omega), w64 (x := w / 251 - p) (by omega) (by omega), w64 (x := w % 251 - o) (by omega) (by omega), w64 (x := w % 251 - o + i) (by omega) (by omega),
            w64 (x := w / 251 - p + w % 251) (by omega) (by omega), w64 (x := w / 251 - p + w % 251 - o) (by omega) (by omega), w64 (x := w / 251 - p + w % 251 - o + i) (by omega) (by omega), impl_weak_v]
          rfl
        · rw [decide_eq_true hw, decide_eq_true hn, decide_eq_true ho, decide_eq_false hi, if_pos rfl, if_pos rfl, if_neg (by decide), if_pos trivial, if_neg (by omega)]
      · rw [decide_eq_true hw, decide_eq_true hn, decide_eq_false ho, if_pos rfl, if_neg (by decide), if_pos trivial, if_neg (by omega)]
    · rw [decide_eq_true hw, decide_eq_false hn, if_neg (by decide), if_pos trivial, if_neg (by omega)]
  · have hf : ¬ (0 ≤ w ∧ w ≤ 63000 ∧ 1 ≤ n ∧ n ≤ 1000000000000 ∧ 0 ≤ o ∧ o ≤ 255 ∧ 0 ≤ i ∧ i ≤ 255) := fun h => hw ⟨h.1, h.2.1⟩
    simp only [decide_eq_false hw, hf, if_false, Bool.not_false, if_true, ite_self]

theorem FnExactRoll : laws_FnExactRoll.Pure := by
  intro a0 a1 a2 a3 _ _ _ _
  refine exists_ge 10 _ (fun k hk => ?_)
  unfold laws_FnExactRoll.f
  rw [spec_Roll_v _ _ _ _ (by omega), impl_Roll_v _ _ _ _ (by omega)]
  simp

end Go.Proofs.Ytjgnefmlckellaa.Pure
