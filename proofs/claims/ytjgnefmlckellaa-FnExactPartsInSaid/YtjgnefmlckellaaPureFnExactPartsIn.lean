/- PartsIn returns what the reference's PartsIn returns, in memory of its own, and leaves its arguments as they were, for all arguments; no condition. -/
import Derived.Test.YtjgnefmlckellaaPFnExactPartsInx2
import Derived.Test.YtjgnefmlckellaaLib
set_option linter.unusedVariables false
set_option linter.unusedSimpArgs false
namespace Go.Proofs.Ytjgnefmlckellaa.Pure
open Go.RowKit Go.Proofs.Ytjgnefmlckellaa.PFnExactPartsIn Go.Proofs.YtjgnefmlckellaaW.PrintWords Go.Proofs.YtjgnefmlckellaaW.PrintLast Go.Proofs.YtjgnefmlckellaaW.PrintMore Go.Proofs.Ytjgnefmlckellaa.Lib

theorem spec_l1In_v (a b c : Int) : spec_l1In.f a b c = some (decide (b ≤ a ∧ a ≤ c)) := by
  unfold spec_l1In.f
  by_cases h : b ≤ a
  · rw [if_pos h]; simp [h]
  · rw [if_neg h]; simp [h]

theorem impl_within_v (a b c : Int) : impl_within.f a b c = some (decide (b ≤ a ∧ a ≤ c)) := by
  unfold impl_within.f
  by_cases h : b ≤ a
  · rw [if_pos h]; simp [h]
  · rw [if_neg h]; simp [h]

theorem spec_SetOk_v (a : Int) : spec_SetOk.f a = some (decide (0 ≤ a ∧ a ≤ 1099511627775)) := by
  unfold spec_SetOk.f; rw [spec_l1In_v]; rfl

theorem impl_SetOk_v (a : Int) : impl_SetOk.f a = some (decide (0 ≤ a ∧ a ≤ 1099511627775)) := by
  unfold impl_SetOk.f; rw [impl_within_v]; rfl

theorem impl_isPlace_v (a : Int) : impl_isPlace.f a = some (decide (0 ≤ a ∧ a ≤ 39)) := by
  unfold impl_isPlace.f; rw [impl_within_v]; rfl

theorem laws_eqIntS_l (a b : List Int) (hab : a.length = b.length) (hl : a.length ≤ 140737488355328) (d : Nat) : ∀ (k : Nat) (i : Nat), i ≤ a.length → a.length - i = d → d < k →
    laws_eqIntS.l0 k a b (i : Int) = some (decide (a.drop i = b.drop i)) := by
  induction d with
  | zero =>
    intro k i hi hd hk
    obtain ⟨k, rfl⟩ : ∃ m, k = m + 1 := ⟨k - 1, by omega⟩
    simp only [laws_eqIntS.l0]
    rw [if_neg (by omega), List.drop_eq_nil_of_le (by omega), List.drop_eq_nil_of_le (by omega)]
    rfl
  | succ d ih =>
    intro k i hi hd hk
    obtain ⟨k, rfl⟩ : ∃ m, k = m + 1 := ⟨k - 1, by omega⟩
    simp only [laws_eqIntS.l0]
    rw [if_pos (by omega), if_pos (by omega), if_pos (by omega), wnat (by omega), rd_at (by omega : i < a.length), rd_at (by omega : i < b.length), ih k (i + 1) (by omega) (by omega) (by omega)]
    have e := drop_eq_iff (a := a) (b := b) (i := i) (by omega) (by omega)
    by_cases h : a[i]'(by omega) = b[i]'(by omega)
    · rw [if_pos h]; simp only [e, h, true_and]
    · rw [if_neg h]; simp only [e, h, false_and, decide_false]
theorem laws_eqIntS_v {k : Nat} {a b : List Int} (hl : a.length ≤ 140737488355328) (hk : a.length < k) : laws_eqIntS.f k a b = some (decide (a = b)) := by
  unfold laws_eqIntS.f
  by_cases h : a.length = b.length
  · rw [if_pos (by omega)]
    exact laws_eqIntS_l a b h hl a.length k 0 (by omega) (by omega) hk
  · rw [if_neg (by omega)]
    have : a ≠ b := fun e => h (by rw [e])
    simp [this]

theorem spec_InSet_v (s i : Int) : spec_InSet.f s i = some (inSet s i) := by
  unfold spec_InSet.f inSet
  rw [spec_SetOk_v, Option.bind_some]
  by_cases h : 0 ≤ s ∧ s ≤ 1099511627775
  · rw [decide_eq_true h, if_pos rfl, spec_l1In_v, Option.bind_some]
    by_cases h1 : 0 ≤ i ∧ i ≤ 39
    · rw [decide_eq_true h1, if_pos rfl, if_pos h1.1]
      simp [setOk, h, bitAt]
    · rw [decide_eq_false h1, if_neg (by decide)]; simp
  · rw [decide_eq_false h, if_neg (by decide)]; simp [setOk, h]

theorem impl_InSet_v (s i : Int) : impl_InSet.f s i = some (inSet s i) := by
  unfold impl_InSet.f inSet
  rw [impl_SetOk_v, Option.bind_some]
  by_cases h : 0 ≤ s ∧ s ≤ 1099511627775
  · rw [decide_eq_true h, if_pos rfl, impl_isPlace_v, Option.bind_some]
    by_cases h1 : 0 ≤ i ∧ i ≤ 39
    · rw [decide_eq_true h1, if_pos rfl, if_pos h1.1]
      simp [setOk, h, bitAt]
    · rw [decide_eq_false h1, if_neg (by decide)]; simp
  · rw [decide_eq_false h, if_neg (by decide)]; simp [setOk, h]

theorem spec_PartsIn_l (s : Int) (d : Nat) : ∀ (k : Nat) (acc : List Int), d ≤ 40 → acc.length ≤ 40 - d → d < k → spec_PartsIn.l0 k s acc (40 - (d : Int)) = some (acc ++ partsFrom s d) := by
  induction d with
  | zero =>
    intro k acc hd ha hk
    obtain ⟨k, rfl⟩ : ∃ m, k = m + 1 := ⟨k - 1, by omega⟩
    simp only [spec_PartsIn.l0]
    rw [if_neg (by omega)]; simp [partsFrom]
  | succ d ih =>
    intro k acc hd ha hk
    obtain ⟨k, rfl⟩ : ∃ m, k = m + 1 := ⟨k - 1, by omega⟩
    simp only [spec_PartsIn.l0]
    rw [show (40 : Int) - ((d + 1 : Nat) : Int) = 39 - (d : Int) from by omega]
    rw [if_pos (by omega), spec_InSet_v, Option.bind_some, w64 (by omega) (by omega), show (39 : Int) - (d : Int) + 1 = 40 - (d : Int) from by omega]
    by_cases h : inSet s (39 - (d : Int)) = true
    · rw [if_pos h, if_pos (by omega), ih k _ (by omega) (by simp; omega) (by omega)]
      simp [partsFrom, h]
    · rw [if_neg h, ih k _ (by omega) (by omega) (by omega)]
      simp [partsFrom, h]
theorem spec_PartsIn_v {k : Nat} (s : Int) (hk : 40 < k) : spec_PartsIn.f k s = some (partsIn s) := by
  unfold spec_PartsIn.f
  have h := spec_PartsIn_l s 40 k [] (by omega) (by simp) hk
  rw [show (40 : Int) - ((40 : Nat) : Int) = 0 from by omega, List.nil_append] at h
  exact h

theorem impl_PartsIn_l (s : Int) (d : Nat) : ∀ (k : Nat) (acc : List Int), d ≤ 40 → acc.length ≤ 40 - d → d < k → impl_PartsIn.l0 k s acc (40 - (d : Int)) = some (acc ++ partsFrom s d) := by
  induction d with
  | zero =>
    intro k acc hd ha hk
    obtain ⟨k, rfl⟩ : ∃ m, k = m + 1 := ⟨k - 1, by omega⟩
    simp only [impl_PartsIn.l0]
    rw [if_neg (by omega)]; simp [partsFrom]
  | succ d ih =>
    intro k acc hd ha hk
    obtain ⟨k, rfl⟩ : ∃ m, k = m + 1 := ⟨k - 1, by omega⟩
    simp only [impl_PartsIn.l0]
    rw [show (40 : Int) - ((d + 1 : Nat) : Int) = 39 - (d : Int) from by omega]
    rw [if_pos (by omega), impl_InSet_v, Option.bind_some, w64 (by omega) (by omega), show (39 : Int) - (d : Int) + 1 = 40 - (d : Int) from by omega]
    by_cases h : inSet s (39 - (d : Int)) = true
    · rw [if_pos h, if_pos (by omega), ih k _ (by omega) (by simp; omega) (by omega)]
      simp [partsFrom, h]
    · rw [if_neg h, ih k _ (by omega) (by omega) (by omega)]
      simp [partsFrom, h]
theorem impl_PartsIn_v {k : Nat} (s : Int) (hk : 40 < k) : impl_PartsIn.f k s = some (partsIn s) := by
  unfold impl_PartsIn.f
  have h := impl_PartsIn_l s 40 k [] (by omega) (by simp) hk
  rw [show (40 : Int) - ((40 : Nat) : Int) = 0 from by omega, List.nil_append] at h
  exact h

theorem laws_markIntS_l (c : Int) (n : Nat) (hc : 0 ≤ c) (hl : c + n ≤ 4611686018427387904) (d : Nat) : ∀ (k : Nat) (x : List Int) (i : Nat), x.length = n → i ≤ n → n - i = d → d < k →
    (∀ j, j < i → x[j]? = (markI c n)[j]?) → laws_markIntS.l0 k x (c + (i : Int)) (i : Int) = some (c + (n : Int), markI c n) := by
  induction d with
  | zero =>
    intro k x i hx hi hd hk hj
    obtain ⟨k, rfl⟩ : ∃ m, k = m + 1 := ⟨k - 1, by omega⟩
    simp only [laws_markIntS.l0]
    rw [if_neg (by omega), ext_all hx (markI_length c n) (fun j h => hj j (by omega)), show i = n from by omega]
  | succ d ih =>
    intro k x i hx hi hd hk hj
    obtain ⟨k, rfl⟩ : ∃ m, k = m + 1 := ⟨k - 1, by omega⟩
    simp only [laws_markIntS.l0]
    rw [if_pos (by omega), if_pos (by omega), wnat (by omega), w64 (by omega) (by omega), show c + (i : Int) + 1 = c + ((i + 1 : Nat) : Int) from by omega]
    exact ih k _ (i + 1) (by simp [hx]) (by omega) (by omega) (by omega) (set_step (by omega) hj (markI_get c n i (by omega)))
theorem laws_markIntS_v {k : Nat} {x : List Int} {c : Int} (hc : 0 ≤ c) (hl : c + x.length ≤ 4611686018427387904) (hk : x.length < k) : laws_markIntS.f k x c = some (c + (x.length : Int), markI c x.length) := by
  unfold laws_markIntS.f
  have h := laws_markIntS_l c x.length hc hl x.length k x 0 rfl (by omega) (by omega) hk (fun j h => by omega)
  rw [show c + ((0 : Nat) : Int) = c from by omega] at h
  exact h

theorem laws_heldIntS_l (c : Int) (n : Nat) (hc : 0 ≤ c) (hl : c + n ≤ 4611686018427387904) (d : Nat) : ∀ (k : Nat) (i : Nat), i ≤ n → n - i = d → d < k →
    laws_heldIntS.l0 k (markI c n) (c + (i : Int)) (i : Int) = some (c + (n : Int)) := by
  induction d with
  | zero =>
    intro k i hi hd hk
    obtain ⟨k, rfl⟩ : ∃ m, k = m + 1 := ⟨k - 1, by omega⟩
    simp only [laws_heldIntS.l0, markI_length]
    rw [if_neg (by omega), show i = n from by omega]
  | succ d ih =>
    intro k i hi hd hk
    obtain ⟨k, rfl⟩ : ∃ m, k = m + 1 := ⟨k - 1, by omega⟩
    simp only [laws_heldIntS.l0, markI_length]
    rw [if_pos (by omega), if_pos (by omega), markI_rd c n i (by omega), if_pos rfl, wnat (by omega), w64 (by omega) (by omega), show c + (i : Int) + 1 = c + ((i + 1 : Nat) : Int) from by omega]
    exact ih k (i + 1) (by omega) (by omega) (by omega)
theorem laws_heldIntS_v {k : Nat} {n : Nat} {c : Int} (hc : 0 ≤ c) (hl : c + n ≤ 4611686018427387904) (hk : n < k) : laws_heldIntS.f k (markI c n) c = some (c + (n : Int)) := by
  unfold laws_heldIntS.f
  have h := laws_heldIntS_l c n hc hl n k 0 (by omega) (by omega) hk
  rw [show c + ((0 : Nat) : Int) = c from by omega] at h
  exact h

theorem FnExactPartsIn : laws_FnExactPartsIn.Pure := by
  intro a0 _
  refine exists_ge 200 _ (fun k hk => ?_)
  have hl : (partsIn a0).length ≤ 40 := partsFrom_length a0 40
  unfold laws_FnExactPartsIn.f
  simp only [spec_PartsIn_v a0 (by omega : 40 < k), impl_PartsIn_v a0 (by omega : 40 < k), Option.bind_some]
  rw [laws_eqIntS_v (by omega) (by omega)]
  simp only [Option.bind_some, decide_true, if_true]
  rw [laws_markIntS_v (by omega) (by omega) (by omega)]
  simp only [Option.bind_some]
  rw [laws_heldIntS_v (by omega) (by omega) (by omega)]
  simp only [Option.bind_some]
  rw [if_neg (by omega)]
  simp
  omega

end Go.Proofs.Ytjgnefmlckellaa.Pure
