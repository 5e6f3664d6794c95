/- What the functions of the law FnSets answer, each, in plain Lean; the program's answers are the reference's; no condition. -/
import Derived.Test.YtfmhhjlhaklljaaPFnSetsx3
import Derived.Test.YtfmhhjlhaklljaaLib
import Derived.Test.YtfmhhjlhaklljaaCount
set_option linter.unusedVariables false
set_option linter.unusedSimpArgs false
namespace Go.Proofs.Ytfmhhjlhaklljaa.Pure
open Go.RowKit Go.Proofs.Ytfmhhjlhaklljaa.PFnSets Go.Proofs.YtfmhhjlhaklljaaW.PrintWords Go.Proofs.YtfmhhjlhaklljaaW.PrintLast Go.Proofs.YtfmhhjlhaklljaaW.PrintMore Go.Proofs.Ytfmhhjlhaklljaa.Lib

theorem spec_l1In_v (a b c : Int) : spec_l1In.f a b c = some (decide (b ≤ a ∧ a ≤ c)) := by
  unfold spec_l1In.f
  by_cases h : b ≤ a
  · rw [if_pos h]; simp [h]
  · rw [if_neg h]; simp [h]

theorem impl_within_v (a b c : Int) : impl_within.f a b c = some (decide (b ≤ a ∧ a ≤ c)) := by
  unfold impl_within.f
  by_cases h : b ≤ a
  · rw [if_pos h]; simp [h]
  · rw [if_neg h]; simp [h]

theorem spec_SetOk_v (a : Int) : spec_SetOk.f a = some (decide (0 ≤ a ∧ a ≤ 1099511627775)) := by
  unfold spec_SetOk.f; rw [spec_l1In_v]; rfl

theorem impl_SetOk_v (a : Int) : impl_SetOk.f a = some (decide (0 ≤ a ∧ a ≤ 1099511627775)) := by
  unfold impl_SetOk.f; rw [impl_within_v]; rfl

theorem impl_isPlace_v (a : Int) : impl_isPlace.f a = some (decide (0 ≤ a ∧ a ≤ 39)) := by
  unfold impl_isPlace.f; rw [impl_within_v]; rfl

theorem spec_InSet_v (s i : Int) : spec_InSet.f s i = some (inSet s i) := by
  unfold spec_InSet.f inSet
  rw [spec_SetOk_v, Option.bind_some]
  by_cases h : 0 ≤ s ∧ s ≤ 1099511627775
  · rw [decide_eq_true h, if_pos rfl, spec_l1In_v, Option.bind_some]
    by_cases h1 : 0 ≤ i ∧ i ≤ 39
    · rw [decide_eq_true h1, if_pos rfl, if_pos h1.1]
      simp [setOk, h, bitAt]
    · rw [decide_eq_false h1, if_neg (by decide)]; simp
  · rw [decide_eq_false h, if_neg (by decide)]; simp [setOk, h]

theorem impl_InSet_v (s i : Int) : impl_InSet.f s i = some (inSet s i) := by
  unfold impl_InSet.f inSet
  rw [impl_SetOk_v, Option.bind_some]
  by_cases h : 0 ≤ s ∧ s ≤ 1099511627775
  · rw [decide_eq_true h, if_pos rfl, impl_isPlace_v, Option.bind_some]
    by_cases h1 : 0 ≤ i ∧ i ≤ 39
    · rw [decide_eq_true h1, if_pos rfl, if_pos h1.1]
      simp [setOk, h, bitAt]
    · rw [decide_eq_false h1, if_neg (by decide)]; simp
  · rw [decide_eq_false h, if_neg (by decide)]; simp [setOk, h]

theorem spec_PartsIn_l (s : Int) (d : Nat) : ∀ (k : Nat) (acc : List Int), d ≤ 40 → acc.length ≤ 40 - d → d < k → spec_PartsIn.l0 k s acc (40 - (d : Int)) = some (acc ++ partsFrom s d) := by
  induction d with
  | zero =>
    intro k acc hd ha hk
    obtain ⟨k, rfl⟩ : ∃ m, k = m + 1 := ⟨k - 1, by omega⟩
    simp only [spec_PartsIn.l0]
    rw [if_neg (by omega)]; simp [partsFrom]
  | succ d ih =>
    intro k acc hd ha hk
    obtain ⟨k, rfl⟩ : ∃ m, k = m + 1 := ⟨k - 1, by omega⟩
    simp only [spec_PartsIn.l0]
    rw [show (40 : Int) - ((d + 1 : Nat) : Int) = 39 - (d : Int) from by omega]
    rw [if_pos (by omega), spec_InSet_v, Option.bind_some, w64 (by omega) (by omega), show (39 : Int) - (d : Int) + 1 = 40 - (d : Int) from by omega]
    by_cases h : inSet s (39 - (d : Int)) = true
    · rw [if_pos h, if_pos (by omega), ih k _ (by omega) (by simp; omega) (by omega)]
      simp [partsFrom, h]
    · rw [if_neg h, ih k _ (by omega) (by omega) (by omega)]
      simp [partsFrom, h]
theorem spec_PartsIn_v {k : Nat} (s : Int) (hk : 40 < k) : spec_PartsIn.f k s = some (partsIn s) := by
  unfold spec_PartsIn.f
  have h := spec_PartsIn_l s 40 k [] (by omega) (by simp) hk
  rw [show (40 : Int) - ((40 : Nat) : Int) = 0 from by omega, List.nil_append] at h
  exact h

theorem impl_PartsIn_l (s : Int) (d : Nat) : ∀ (k : Nat) (acc : List Int), d ≤ 40 → acc.length ≤ 40 - d → d < k → impl_PartsIn.l0 k s acc (40 - (d : Int)) = some (acc ++ partsFrom s d) := by
  induction d with
  | zero =>
    intro k acc hd ha hk
    obtain ⟨k, rfl⟩ : ∃ m, k = m + 1 := ⟨k - 1, by omega⟩
    simp only [impl_PartsIn.l0]
    rw [if_neg (by omega)]; simp [partsFrom]
  | succ d ih =>
    intro k acc hd ha hk
    obtain ⟨k, rfl⟩ : ∃ m, k = m + 1 := ⟨k - 1, by omega⟩
    simp only [impl_PartsIn.l0]
    rw [show (40 : Int) - ((d + 1 : Nat) : Int) = 39 - (d : Int) from by omega]
    rw [if_pos (by omega), impl_InSet_v, Option.bind_some, w64 (by omega) (by omega), show (39 : Int) - (d : Int) + 1 = 40 - (d : Int) from by omega]
    by_cases h : inSet s (39 - (d : Int)) = true
    · rw [if_pos h, if_pos (by omega), ih k _ (by omega) (by simp; omega) (by omega)]
      simp [partsFrom, h]
    · rw [if_neg h, ih k _ (by omega) (by omega) (by omega)]
      simp [partsFrom, h]
theorem impl_PartsIn_v {k : Nat} (s : Int) (hk : 40 < k) : impl_PartsIn.f k s = some (partsIn s) := by
  unfold impl_PartsIn.f
  have h := impl_PartsIn_l s 40 k [] (by omega) (by simp) hk
  rw [show (40 : Int) - ((40 : Nat) : Int) = 0 from by omega, List.nil_append] at h
  exact h

theorem spec_FirstOf_l (s : Int) (d : Nat) : ∀ (k : Nat) (n o : Int), -9223372036854775808 ≤ n → n ≤ 9223372036854775807 → d ≤ 40 → 2 * d + 2 ≤ k → spec_FirstOf.l0 k s n o (40 - (d : Int)) = some (firstFold (partsFrom s d) n o) := by
  induction d with
  | zero =>
    intro k n o h0 h1 hd hk
    obtain ⟨k, rfl⟩ : ∃ m, k = m + 2 := ⟨k - 2, by omega⟩
    simp only [spec_FirstOf.l0]
    rw [if_neg (by omega)]
    simp only [spec_FirstOf.j1]
    simp [partsFrom, firstFold]
  | succ d ih =>
    intro k n o h0 h1 hd hk
    obtain ⟨k, rfl⟩ : ∃ m, k = m + 2 := ⟨k - 2, by omega⟩
    simp only [spec_FirstOf.l0]
    rw [show (40 : Int) - ((d + 1 : Nat) : Int) = 39 - (d : Int) from by omega]
    rw [if_pos (by omega)]
    simp only [spec_FirstOf.j1]
    by_cases hn : n < 1
    · rw [if_neg (by simp; omega)]
      have : firstFold (partsFrom s (d + 1)) n o = o := by
        generalize partsFrom s (d + 1) = l
        cases l with
        | nil => rfl
        | cons i l => simp [firstFold, hn]
      rw [this]
    · rw [if_pos (by simp; omega), spec_InSet_v, Option.bind_some, w64 (x := 39 - (d : Int) + 1) (by omega) (by omega), show (39 : Int) - (d : Int) + 1 = 40 - (d : Int) from by omega]
      by_cases h : inSet s (39 - (d : Int)) = true
      · rw [if_pos h, if_pos (by omega), w64 (by omega) (by omega), ih k _ _ (by omega) (by omega) (by omega) (by omega)]
        simp [partsFrom, h, firstFold, hn]
      · rw [if_neg h, ih k _ _ (by omega) (by omega) (by omega) (by omega)]
        simp [partsFrom, h]
theorem spec_FirstOf_v {k : Nat} (s : Int) {n : Int} (h0 : -9223372036854775808 ≤ n) (h1 : n ≤ 9223372036854775807) (hk : 100 < k) : spec_FirstOf.f k s n = some (firstOf s n) := by
  unfold spec_FirstOf.f
  have h := spec_FirstOf_l s 40 k n 0 h0 h1 (by omega) (by omega)
  rw [show (40 : Int) - ((40 : Nat) : Int) = 0 from by omega] at h
  exact h

theorem impl_FirstOf_l (l : List Int) (hl : l.length ≤ 40) (hp : ∀ x ∈ l, 0 ≤ x ∧ x ≤ 39) (d : Nat) : ∀ (k : Nat) (n o : Int) (i : Nat), -9223372036854775808 ≤ n → n ≤ 9223372036854775807 → i ≤ l.length → l.length - i = d → d < k →
    impl_FirstOf.l0 k n o l (l.length : Int) (i : Int) = some (firstFold (l.drop i) n o) := by
  induction d with
  | zero =>
    intro k n o i h0 h1 hi hd hk
    obtain ⟨k, rfl⟩ : ∃ m, k = m + 1 := ⟨k - 1, by omega⟩
    simp only [impl_FirstOf.l0]
    rw [if_neg (by omega), List.drop_eq_nil_of_le (by omega)]; rfl
  | succ d ih =>
    intro k n o i h0 h1 hi hd hk
    obtain ⟨k, rfl⟩ : ∃ m, k = m + 1 := ⟨k - 1, by omega⟩
    simp only [impl_FirstOf.l0]
    have hx := hp l[i] (List.getElem_mem (by omega))
    rw [if_pos (by omega), if_pos (by omega), if_pos (by omega), rd_at (by omega : i < l.length), wnat (by omega)]
    rw [List.drop_eq_getElem_cons (by omega : i < l.length), firstFold]
    by_cases hn : n < 1
    · rw [if_pos hn, if_pos hn]
    · rw [if_neg hn, if_neg hn, if_pos hx.1, w64 (by omega) (by omega), ih k _ _ (i + 1) (by omega) (by omega) (by omega) (by omega) (by omega)]
theorem impl_FirstOf_v {k : Nat} (s : Int) {n : Int} (h0 : -9223372036854775808 ≤ n) (h1 : n ≤ 9223372036854775807) (hk : 100 < k) : impl_FirstOf.f k s n = some (firstOf s n) := by
  unfold impl_FirstOf.f
  rw [impl_PartsIn_v s (by omega), Option.bind_some]
  have := partsFrom_length s 40
  exact impl_FirstOf_l (partsIn s) this (partsFrom_nn s 40 (by omega)) (partsIn s).length k n 0 0 h0 h1 (by omega) (by omega) (by unfold partsIn; omega)

theorem bits_OnesCount64_v {s : Int} (h0 : 0 ≤ s) (h1 : s ≤ 1099511627775) : bits_OnesCount64.f s = some ((partsIn s).length : Int) := by
  rw [partsIn_len h0 h1]
  obtain ⟨n, rfl⟩ := Int.eq_ofNat_of_zero_le h0
  rw [pop8_one n 0, pop8_one n 8, pop8_one n 16, pop8_one n 24, pop8_one n 32]
  have hn := n5_of n (by omega)
  unfold bits_OnesCount64.f
  have h := ones_at (n / 2 ^ 0 % 256) (n / 2 ^ 8 % 256) (n / 2 ^ 16 % 256) (n / 2 ^ 24 % 256) (n / 2 ^ 32 % 256) (by omega) (by omega) (by omega) (by omega) (by omega) _ _ _ _ _ _ (n : Int) (by rw [← hn]) rfl rfl rfl rfl rfl rfl
  rw [h]

theorem impl_CountSet_v (s : Int) : impl_CountSet.f s = some ((partsIn s).length : Int) := by
  unfold impl_CountSet.f
  rw [impl_SetOk_v, Option.bind_some]
  by_cases h : 0 ≤ s ∧ s ≤ 1099511627775
  · rw [decide_eq_true h, if_pos rfl, IntWalk.u64_in _ ⟨by omega, by omega⟩, bits_OnesCount64_v h.1 h.2]; rfl
  · rw [decide_eq_false h, if_neg (by decide)]
    unfold partsIn
    rw [partsFrom_none h]; rfl

theorem laws_big_v (l : List Int) : laws_big.f l = some (decide ((l.length : Int) > 1048576)) := rfl

theorem spec_l1New_l (b : List Int) (hb : b.length ≤ 1048576) (d : Nat) : ∀ (k i : Nat) (h : Int), i ≤ b.length → b.length - i = d → d < k → ∃ h', spec_l1New.l0 k b h (i : Int) = some (b, 0, h') := by
  induction d with
  | zero =>
    intro k i h hi hd hk
    obtain ⟨k, rfl⟩ : ∃ m, k = m + 1 := ⟨k - 1, by omega⟩
    simp only [spec_l1New.l0]
    rw [if_neg (by omega)]
    exact ⟨_, rfl⟩
  | succ d ih =>
    intro k i h hi hd hk
    obtain ⟨k, rfl⟩ : ∃ m, k = m + 1 := ⟨k - 1, by omega⟩
    simp only [spec_l1New.l0]
    rw [if_pos (by omega)]
    by_cases h4 : (i : Int) < 4000
    · rw [if_pos h4, if_pos (by omega), wnat (by omega)]
      exact ih k (i + 1) _ (by omega) (by omega) (by omega)
    · rw [if_neg h4]; exact ⟨_, rfl⟩
theorem spec_l1New_x {k : Nat} {b : List Int} (hb : b.length ≤ 1048576) (hk : b.length < k) : ∃ h', spec_l1New.f k b = some (b, 0, h') := by
  unfold spec_l1New.f
  exact spec_l1New_l b hb b.length k 0 _ (by omega) (by omega) hk
theorem cur_start {b : List Int} (hb : b.length ≤ 1048576) : Cur b 0 := ⟨hb, by omega, by omega⟩

theorem spec_l1Byte_x {b : List Int} {i : Int} (hc : Cur b i) (h : Int) : ∃ r i' h', spec_l1Byte.f b i h = some (r, i', h') ∧ 0 ≤ r ∧ r ≤ 255 ∧ Cur b i' := by
  obtain ⟨h0, h1, h2⟩ := hc
  unfold spec_l1Byte.f
  by_cases hi : i < (b.length : Int)
  · rw [if_pos hi, if_pos h1, w64 (x := i + 1) (by omega) (by omega)]
    exact ⟨_, _, _, rfl, (and_le _).1, (and_le _).2, h0, by omega, by omega⟩
  · rw [if_neg hi]
    exact ⟨_, _, _, rfl, (and_le _).1, (and_le _).2, h0, h1, h2⟩

theorem spec_l1Below_x {b : List Int} {i : Int} (hc : Cur b i) (h : Int) (n : Int) : ∃ r i' h', spec_l1Below.f b i h n = some (r, i', h') ∧ 0 ≤ r ∧ (n ≤ 0 → r = 0) ∧ (0 < n → r < n) ∧ Cur b i' := by
  unfold spec_l1Below.f
  by_cases hn : n ≤ 0
  · rw [if_pos hn]
    exact ⟨_, _, _, rfl, by omega, fun _ => rfl, fun h => by omega, hc⟩
  · rw [if_neg hn]
    by_cases h256 : n ≤ 256
    · rw [if_pos h256]
      obtain ⟨r, i', h', e, r0, r1, hc'⟩ := spec_l1Byte_x hc h
      rw [e, Option.bind_some, if_neg (by omega)]
      refine ⟨_, _, _, rfl, ?_, fun h => by omega, fun _ => ?_, hc'⟩ <;> dsimp only <;> rw [tmod_nn r0]
      · exact Int.emod_nonneg _ (by omega)
      · exact Int.emod_lt_of_pos _ (by omega)
    · rw [if_neg h256]
      obtain ⟨r, i', h', e, r0, r1, hc'⟩ := spec_l1Byte_x hc h
      obtain ⟨s, i'', h'', e', s0, s1, hc''⟩ := spec_l1Byte_x hc' h'
      obtain ⟨t, i3, h3, e3, t0, t1, hc3⟩ := spec_l1Byte_x hc'' h''
      rw [e, Option.bind_some, e', Option.bind_some, e3, Option.bind_some, if_neg (by omega)]
      refine ⟨_, _, _, rfl, ?_, fun h => by omega, fun _ => ?_, hc3⟩ <;> dsimp only <;> rw [w64 (x := r * 65536) (by omega) (by omega), w64 (x := s * 256) (by omega) (by omega), w64 (x := r * 65536 + s * 256) (by omega) (by omega), w64 (x := r * 65536 + s * 256 + t) (by omega) (by omega), tmod_nn (by omega)]
      · exact Int.emod_nonneg _ (by omega)
      · exact Int.emod_lt_of_pos _ (by omega)

theorem spec_l1Int_x {b : List Int} {i : Int} (hc : Cur b i) (h : Int) {l : List Int} (hl : 0 < l.length) : ∃ r i' h', spec_l1Int.f b i h l = some (r, i', h') ∧ r ∈ l ∧ Cur b i' := by
  unfold spec_l1Int.f
  obtain ⟨r, i', h', e, r0, r1, r2, hc'⟩ := spec_l1Below_x hc h (l.length : Int)
  have := r2 (by omega)
  rw [e, Option.bind_some, if_pos r0, if_pos this]
  refine ⟨_, _, _, rfl, ?_, hc'⟩
  obtain ⟨m, rfl⟩ := Int.eq_ofNat_of_zero_le r0
  dsimp only
  rw [rd_at (by omega : m < l.length)]
  exact List.getElem_mem _

theorem spec_l1Once_x {b : List Int} {i : Int} (hc : Cur b i) (h : Int) (n : Int) : ∃ (r : Bool) (i' h' : Int), spec_l1Once.f b i h n = some (r, i', h') ∧ Cur b i' := by
  unfold spec_l1Once.f
  obtain ⟨r, i', h', e, r0, r1, r2, hc'⟩ := spec_l1Below_x hc h n
  rw [e, Option.bind_some]
  exact ⟨_, _, _, rfl, hc'⟩

theorem spec_FullSet_v (n : Int) : spec_FullSet.f n = some (fullSet n) := by
  unfold spec_FullSet.f fullSet
  rw [spec_l1In_v, Option.bind_some]
  by_cases h : 0 ≤ n ∧ n ≤ 40
  · rw [decide_eq_true h, if_pos rfl, if_pos h.1, if_pos h]
  · rw [decide_eq_false h, if_neg (by decide), if_neg h]

theorem impl_FullSet_v (n : Int) : impl_FullSet.f n = some (fullSet n) := by
  unfold impl_FullSet.f fullSet
  rw [impl_within_v, Option.bind_some]
  by_cases h : 0 ≤ n ∧ n ≤ 40
  · rw [decide_eq_true h, if_pos rfl, if_pos h.1, if_pos h]
  · rw [decide_eq_false h, if_neg (by decide), if_neg h]

theorem laws_sameInts_l (a b : List Int) (hab : a.length = b.length) (hl : a.length ≤ 140737488355328) (d : Nat) : ∀ (k : Nat) (i : Nat), i ≤ a.length → a.length - i = d → d < k →
    laws_sameInts.l0 k a b (i : Int) = some (decide (a.drop i = b.drop i)) := by
  induction d with
  | zero =>
    intro k i hi hd hk
    obtain ⟨k, rfl⟩ : ∃ m, k = m + 1 := ⟨k - 1, by omega⟩
    simp only [laws_sameInts.l0]
    rw [if_neg (by omega), List.drop_eq_nil_of_le (by omega), List.drop_eq_nil_of_le (by omega)]
    rfl
  | succ d ih =>
    intro k i hi hd hk
    obtain ⟨k, rfl⟩ : ∃ m, k = m + 1 := ⟨k - 1, by omega⟩
    simp only [laws_sameInts.l0]
    rw [if_pos (by omega), if_pos (by omega), if_pos (by omega), wnat (by omega), rd_at (by omega : i < a.length), rd_at (by omega : i < b.length), ih k (i + 1) (by omega) (by omega) (by omega)]
    have e := drop_eq_iff (a := a) (b := b) (i := i) (by omega) (by omega)
    by_cases h : a[i]'(by omega) = b[i]'(by omega)
    · rw [if_pos h]; simp only [e, h, true_and]
    · rw [if_neg h]; simp only [e, h, false_and, decide_false]
theorem laws_sameInts_v {k : Nat} {a b : List Int} (hl : a.length ≤ 140737488355328) (hk : a.length < k) : laws_sameInts.f k a b = some (decide (a = b)) := by
  unfold laws_sameInts.f
  by_cases h : a.length = b.length
  · rw [if_pos (by omega)]
    exact laws_sameInts_l a b h hl a.length k 0 (by omega) (by omega) hk
  · rw [if_neg (by omega)]
    have : a ≠ b := fun e => h (by rw [e])
    simp [this]

theorem spec_l5Set_x {b : List Int} {i : Int} (hc : Cur b i) (h : Int) : ∃ r i' h', spec_l5Set.f b i h = some (r, i', h') ∧ Cur b i' := by
  unfold spec_l5Set.f
  obtain ⟨o, i1, h1, e1, c1⟩ := spec_l1Once_x hc h 3
  rw [e1, Option.bind_some]
  cases o with
  | true =>
    obtain ⟨r, i2, h2, e2, _, c2⟩ := spec_l1Int_x c1 h1 (l := [0, 1, 3, 1099511627775, 549755813888]) (by decide)
    simp only [if_true]
    rw [e2, Option.bind_some]
    exact ⟨_, _, _, rfl, c2⟩
  | false =>
    obtain ⟨r, i2, h2, e2, _, _, _, c2⟩ := spec_l1Below_x c1 h1 65536
    obtain ⟨s, i3, h3, e3, s0, _, _, c3⟩ := spec_l1Below_x c2 h2 20
    simp only [Bool.false_eq_true, if_false]
    rw [e2, Option.bind_some, e3, Option.bind_some, if_pos s0]
    exact ⟨_, _, _, rfl, c3⟩
theorem spec_l5Any_x {b : List Int} {i : Int} (hc : Cur b i) (h : Int) : ∃ r i' h', spec_l5Any.f b i h = some (r, i', h') ∧ Cur b i' := by
  unfold spec_l5Any.f
  obtain ⟨o, i1, h1, e1, c1⟩ := spec_l1Once_x hc h 8
  rw [e1, Option.bind_some]
  cases o with
  | true =>
    obtain ⟨r, i2, h2, e2, _, c2⟩ := spec_l1Int_x c1 h1 (l := [(-1), 1099511627776]) (by decide)
    simp only [if_true]
    rw [e2, Option.bind_some]
    exact ⟨_, _, _, rfl, c2⟩
  | false =>
    obtain ⟨r, i2, h2, e2, c2⟩ := spec_l5Set_x c1 h1
    simp only [Bool.false_eq_true, if_false]
    rw [e2, Option.bind_some]
    exact ⟨_, _, _, rfl, c2⟩
theorem spec_l5Part_x {b : List Int} {i : Int} (hc : Cur b i) (h : Int) : ∃ r i' h', spec_l5Part.f b i h = some (r, i', h') ∧ Cur b i' := by
  unfold spec_l5Part.f
  obtain ⟨o, i1, h1, e1, c1⟩ := spec_l1Once_x hc h 8
  rw [e1, Option.bind_some]
  cases o with
  | true =>
    obtain ⟨r, i2, h2, e2, _, c2⟩ := spec_l1Int_x c1 h1 (l := [(-1), 40, 39, 63, 64]) (by decide)
    simp only [if_true]
    rw [e2, Option.bind_some]
    exact ⟨_, _, _, rfl, c2⟩
  | false =>
    obtain ⟨r, i2, h2, e2, _, _, _, c2⟩ := spec_l1Below_x c1 h1 40
    simp only [Bool.false_eq_true, if_false]
    rw [e2, Option.bind_some]
    exact ⟨_, _, _, rfl, c2⟩
theorem spec_DrawInSet_x {k : Nat} {b : List Int} (hb : b.length ≤ 1048576) (hk : 1049000 < k) : ∃ s i, spec_DrawInSet.f k b = some (s, i) := by
  unfold spec_DrawInSet.f
  obtain ⟨h, e⟩ := spec_l1New_x (k := k) hb (by omega)
  obtain ⟨s, i1, h1, e1, c1⟩ := spec_l5Any_x (cur_start hb) h
  obtain ⟨i, i2, h2, e2, c2⟩ := spec_l5Part_x c1 h1
  rw [e, Option.bind_some, e1, Option.bind_some, e2, Option.bind_some]
  exact ⟨_, _, rfl⟩

theorem spec_DrawUnion_x {k : Nat} {b : List Int} (hb : b.length ≤ 1048576) (hk : 1049000 < k) : ∃ s i, spec_DrawUnion.f k b = some (s, i) := by
  unfold spec_DrawUnion.f spec_l5Two.f
  obtain ⟨h, e⟩ := spec_l1New_x (k := k) hb (by omega)
  obtain ⟨s, i1, h1, e1, c1⟩ := spec_l5Any_x (cur_start hb) h
  obtain ⟨i, i2, h2, e2, c2⟩ := spec_l5Any_x c1 h1
  rw [e, Option.bind_some, e1, Option.bind_some, e2, Option.bind_some]
  exact ⟨_, _, rfl⟩

theorem spec_DrawFirstOf_x {k : Nat} {b : List Int} (hb : b.length ≤ 1048576) (hk : 1049000 < k) : ∃ s n, spec_DrawFirstOf.f k b = some (s, n) ∧ -1 ≤ n ∧ n ≤ 99 := by
  unfold spec_DrawFirstOf.f
  obtain ⟨h, e⟩ := spec_l1New_x (k := k) hb (by omega)
  obtain ⟨s, i1, h1, e1, c1⟩ := spec_l5Any_x (cur_start hb) h
  obtain ⟨n, i2, h2, e2, hn, c2⟩ := spec_l1Int_x c1 h1 (l := [1, 2, 3, 8, 0, (-1), 99]) (by decide)
  simp only [List.mem_cons, List.not_mem_nil, or_false] at hn
  rw [e, Option.bind_some, e1, Option.bind_some, e2, Option.bind_some]
  exact ⟨s, n, rfl, by omega, by omega⟩

theorem spec_DrawFullSet_x {k : Nat} {b : List Int} (hb : b.length ≤ 1048576) (hk : 1049000 < k) : ∃ n, spec_DrawFullSet.f k b = some n := by
  unfold spec_DrawFullSet.f
  obtain ⟨h, e⟩ := spec_l1New_x (k := k) hb (by omega)
  obtain ⟨n, i2, h2, e2, hn, c2⟩ := spec_l1Int_x (cur_start hb) h (l := [0, 1, 5, 39, 40, 41, (-1)]) (by decide)
  rw [e, Option.bind_some, e2, Option.bind_some]
  exact ⟨_, rfl⟩

/-! ### what a walk need not reach: the program's answer and the reference's are one -/
theorem lift {α : Type} {f : Nat → Option α} (h : ∀ k, LeO (f k) (f (k + 1))) {k : Nat} {r : α} (e : f k = some r) (m : Nat) : f (k + m) = some r := by
  induction m with
  | zero => exact e
  | succ m ih => exact h _ _ ih
theorem big_len {l : List Int} (h : laws_big.f l = some false) : l.length ≤ 1048576 := by
  rw [laws_big_v] at h
  have := of_decide_eq_false (Option.some.inj h)
  omega
theorem d_InSet {s i : Int} {x y : Bool} (h1 : impl_InSet.f s i = some x) (h2 : spec_InSet.f s i = some y) : x = y := by
  rw [impl_InSet_v] at h1; rw [spec_InSet_v] at h2
  exact (Option.some.inj h1).symm.trans (Option.some.inj h2)
theorem d_WithPart {s i x y : Int} (h1 : impl_WithPart.f s i = some x) (h2 : spec_WithPart.f s i = some y) : x = y := by
  have e : spec_WithPart.f s i = impl_WithPart.f s i := by
    unfold spec_WithPart.f impl_WithPart.f
    simp only [spec_l1In_v, impl_isPlace_v, spec_SetOk_v, impl_SetOk_v, Option.bind_some]
  rw [e, h1] at h2; exact Option.some.inj h2
theorem d_WithoutPart {s i x y : Int} (h1 : impl_WithoutPart.f s i = some x) (h2 : spec_WithoutPart.f s i = some y) : x = y := by
  have e : spec_WithoutPart.f s i = impl_WithoutPart.f s i := by
    unfold spec_WithoutPart.f impl_WithoutPart.f
    simp only [spec_l1In_v, impl_isPlace_v, spec_SetOk_v, impl_SetOk_v, Option.bind_some]
  rw [e, h1] at h2; exact Option.some.inj h2
theorem d_Union {a b x y : Int} (h1 : impl_Union.f a b = some x) (h2 : spec_Union.f a b = some y) : x = y := by
  have e : spec_Union.f a b = impl_Union.f a b := by
    unfold spec_Union.f impl_Union.f
    simp only [spec_SetOk_v, impl_SetOk_v, Option.bind_some]
  rw [e, h1] at h2; exact Option.some.inj h2
theorem d_Without {a b x y : Int} (h1 : impl_Without.f a b = some x) (h2 : spec_Without.f a b = some y) : x = y := by
  have e : spec_Without.f a b = impl_Without.f a b := by
    unfold spec_Without.f impl_Without.f
    simp only [spec_SetOk_v, impl_SetOk_v, Option.bind_some]
  rw [e, h1] at h2; exact Option.some.inj h2
theorem d_FullSet {a x y : Int} (h1 : impl_FullSet.f a = some x) (h2 : spec_FullSet.f a = some y) : x = y := by
  rw [impl_FullSet_v] at h1; rw [spec_FullSet_v] at h2
  exact (Option.some.inj h1).symm.trans (Option.some.inj h2)
theorem d_FirstOf {k : Nat} {l : List Int} (hl : l.length ≤ 1048576) {s n x y : Int} (h0 : spec_DrawFirstOf.f k l = some (s, n)) (h1 : impl_FirstOf.f k s n = some x) (h2 : spec_FirstOf.f k s n = some y) : x = y := by
  obtain ⟨s', n', e, n0, n1⟩ := spec_DrawFirstOf_x (k := k + 1049001) hl (by omega)
  have g := lift (fun k => spec_DrawFirstOf.mono l k) h0 1049001
  rw [e] at g
  have g2 := Option.some.inj g
  have g3 : n' = n := congrArg Prod.snd g2
  have i1 := lift (fun k => impl_FirstOf.mono s n k) h1 101
  have i2 := lift (fun k => spec_FirstOf.mono s n k) h2 101
  rw [impl_FirstOf_v s (by omega) (by omega) (by omega)] at i1
  rw [spec_FirstOf_v s (by omega) (by omega) (by omega)] at i2
  exact (Option.some.inj i1).symm.trans (Option.some.inj i2)
theorem d_PartsIn {k : Nat} {s : Int} {x y : List Int} {t : Bool} (h1 : impl_PartsIn.f k s = some x) (h2 : spec_PartsIn.f k s = some y) (h3 : laws_sameInts.f k x y = some t) : t = true := by
  have i1 := lift (fun k => impl_PartsIn.mono s k) h1 41
  have i2 := lift (fun k => spec_PartsIn.mono s k) h2 41
  rw [impl_PartsIn_v s (by omega)] at i1
  rw [spec_PartsIn_v s (by omega)] at i2
  have e1 := Option.some.inj i1
  have e2 := Option.some.inj i2
  subst e1 e2
  have pl : (partsIn s).length ≤ 40 := partsFrom_length s 40
  have i3 := lift (fun k => laws_sameInts.mono (partsIn s) (partsIn s) k) h3 41
  rw [laws_sameInts_v (by omega) (by omega), decide_eq_true rfl] at i3
  exact (Option.some.inj i3).symm
theorem d_Count {k : Nat} {s c : Int} {x : List Int} (h1 : impl_PartsIn.f k s = some x) (h2 : impl_CountSet.f s = some c) : c = (x.length : Int) := by
  have i1 := lift (fun k => impl_PartsIn.mono s k) h1 41
  rw [impl_PartsIn_v s (by omega)] at i1
  rw [impl_CountSet_v] at h2
  rw [← Option.some.inj i1]; exact (Option.some.inj h2).symm

end Go.Proofs.Ytfmhhjlhaklljaa.Pure
