/- For all draws: a checksum that was rolled by a byte is the checksum of the bytes in the window; no condition. -/
import Derived.Test.YtfmhhjlhaklljaaPFnWeaksx5
import Derived.Test.YtfmhhjlhaklljaaLib
set_option linter.unusedVariables false
set_option linter.unusedSimpArgs false
namespace Go.Proofs.Ytfmhhjlhaklljaa.Pure
open Go.RowKit Go.Proofs.Ytfmhhjlhaklljaa.PFnWeaks Go.Proofs.YtfmhhjlhaklljaaW.PrintWords Go.Proofs.YtfmhhjlhaklljaaW.PrintLast Go.Proofs.YtfmhhjlhaklljaaW.PrintMore Go.Proofs.Ytfmhhjlhaklljaa.Lib

theorem spec_l1In_v (a b c : Int) : spec_l1In.f a b c = some (decide (b ≤ a ∧ a ≤ c)) := by
  unfold spec_l1In.f
  by_cases h : b ≤ a
  · rw [if_pos h]; simp [h]
  · rw [if_neg h]; simp [h]

theorem impl_within_v (a b c : Int) : impl_within.f a b c = some (decide (b ≤ a ∧ a ≤ c)) := by
  unfold impl_within.f
  by_cases h : b ≤ a
  · rw [if_pos h]; simp [h]
  · rw [if_neg h]; simp [h]

theorem spec_Wrap_v {a m : Int} (h0 : 1 ≤ m) (h1 : m ≤ 1000000000000) : spec_Wrap.f a m = some (a % m) := by
  unfold spec_Wrap.f
  rw [spec_l1In_v, Option.bind_some, decide_eq_true (by omega), if_pos rfl, if_neg (by omega)]
  have h2 : a.tmod m = a - m * a.tdiv m := by have := Int.mul_tdiv_add_tmod a m; omega
  have h3 : -m < a.tmod m ∧ a.tmod m < m := ⟨by have := Int.lt_tmod_of_pos a (by omega : 0 < m); omega, Int.tmod_lt_of_pos a (by omega)⟩
  rw [w64 (by omega) (by omega), tmod_nn (by omega), Int.add_emod_right, h2, Int.sub_mul_emod_self_left]

theorem impl_Wrap_v {a m : Int} (h0 : 1 ≤ m) (h1 : m ≤ 1000000000000) : impl_Wrap.f a m = some (a % m) := by
  unfold impl_Wrap.f
  rw [impl_within_v, Option.bind_some, decide_eq_true (by omega), if_pos rfl, if_neg (by omega)]
  have h2 : a.tmod m = a - m * a.tdiv m := by have := Int.mul_tdiv_add_tmod a m; omega
  have h3 : -m < a.tmod m ∧ a.tmod m < m := ⟨by have := Int.lt_tmod_of_pos a (by omega : 0 < m); omega, Int.tmod_lt_of_pos a (by omega)⟩
  rw [w64 (by omega) (by omega), tmod_nn (by omega), Int.add_emod_right, h2, Int.sub_mul_emod_self_left]

theorem impl_weak_v (x y : Int) : impl_weak.f x y = some (x % 251 + 251 * (y % 251)) := by
  unfold impl_weak.f
  rw [impl_Wrap_v (by omega) (by omega), impl_Wrap_v (by omega) (by omega)]
  simp only [Option.bind_some]
  rw [w64 (x := 251 * (y % 251)) (by omega) (by omega), w64 (by omega) (by omega)]

theorem spec_WeakOf_l (l : List Int) (hb : Byt l) (hl : l.length ≤ 140737488351232) (d : Nat) : ∀ (k : Nat) (i : Nat), i ≤ l.length → l.length - i = d → d < k →
    spec_WeakOf.l0 k l (sx (l.take i) % 251) (sy (l.take i) % 251) (i : Int) = some (weakOf l) := by
  induction d with
  | zero =>
    intro k i hi hd hk
    obtain ⟨k, rfl⟩ : ∃ m, k = m + 1 := ⟨k - 1, by omega⟩
    simp only [spec_WeakOf.l0]
    rw [if_neg (by omega), List.take_of_length_le (by omega), w64 (x := 251 * (sy l % 251)) (by omega) (by omega), w64 (by omega) (by omega)]
    rfl
  | succ d ih =>
    intro k i hi hd hk
    obtain ⟨k, rfl⟩ : ∃ m, k = m + 1 := ⟨k - 1, by omega⟩
    simp only [spec_WeakOf.l0]
    have hc := hb l[i] (List.getElem_mem (by omega))
    rw [if_pos (by omega), if_pos (by omega), wnat (by omega), rd_at (by omega : i < l.length), w64 (x := l[i]) (by omega) (by omega), w64 (by omega) (by omega), tmod_nn (by omega), w64 (by omega) (by omega), tmod_nn (by omega)]
    have e : l.take (i + 1) = l.take i ++ [l[i]] := List.take_succ_eq_append_getElem (by omega)
    have := ih k (i + 1) (by omega) (by omega) (by omega)
    rw [e, sx_snoc, sy_snoc] at this
    rw [show (sx (l.take i) % 251 + l[i]) % 251 = (sx (l.take i) + l[i]) % 251 from by omega, show (sy (l.take i) % 251 + (sx (l.take i) + l[i]) % 251) % 251 = (sy (l.take i) + sx (l.take i) + l[i]) % 251 from by omega]
    exact this
theorem spec_WeakOf_v {k : Nat} {l : List Int} (hb : Byt l) (hl : l.length ≤ 140737488351232) (hk : l.length < k) : spec_WeakOf.f k l = some (weakOf l) := by
  unfold spec_WeakOf.f
  exact spec_WeakOf_l l hb hl l.length k 0 (by omega) (by omega) hk

theorem impl_WeakOf_l (l : List Int) (hb : Byt l) (hl : l.length ≤ 140737488351232) (d : Nat) : ∀ (k : Nat) (i : Nat), i ≤ l.length → l.length - i = d → d < k →
    impl_WeakOf.l0 k (sx (l.take i) % 251) (sy (l.take i) % 251) l (l.length : Int) (i : Int) = some (weakOf l) := by
  induction d with
  | zero =>
    intro k i hi hd hk
    obtain ⟨k, rfl⟩ : ∃ m, k = m + 1 := ⟨k - 1, by omega⟩
    simp only [impl_WeakOf.l0]
    rw [if_neg (by omega), impl_weak_v, List.take_of_length_le (by omega)]
    simp only [Option.bind_some, weakOf, Int.emod_emod]
  | succ d ih =>
    intro k i hi hd hk
    obtain ⟨k, rfl⟩ : ∃ m, k = m + 1 := ⟨k - 1, by omega⟩
    simp only [impl_WeakOf.l0]
    have hc := hb l[i] (List.getElem_mem (by omega))
    rw [if_pos (by omega), if_pos (by omega), if_pos (by omega), wnat (by omega), rd_at (by omega : i < l.length), w64 (x := l[i]) (by omega) (by omega), w64 (by omega) (by omega), tmod_nn (by omega), w64 (by omega) (by omega), tmod_nn (by omega)]
    have e : l.take (i + 1) = l.take i ++ [l[i]] := List.take_succ_eq_append_getElem (by omega)
    have := ih k (i + 1) (by omega) (by omega) (by omega)
    rw [e, sx_snoc, sy_snoc] at this
    rw [show (sx (l.take i) % 251 + l[i]) % 251 = (sx (l.take i) + l[i]) % 251 from by omega, show (sy (l.take i) % 251 + (sx (l.take i) + l[i]) % 251) % 251 = (sy (l.take i) + sx (l.take i) + l[i]) % 251 from by omega]
    exact this
theorem impl_WeakOf_v {k : Nat} {l : List Int} (hb : Byt l) (hl : l.length ≤ 140737488351232) (hk : l.length < k) : impl_WeakOf.f k l = some (weakOf l) := by
  unfold impl_WeakOf.f
  exact impl_WeakOf_l l hb hl l.length k 0 (by omega) (by omega) hk

theorem spec_l3Ok_v (w : Int) : spec_l3Ok.f w = some (weakOk w) := by
  unfold spec_l3Ok.f weakOk; rw [spec_l1In_v]; rfl

theorem impl_isWeak_v (w : Int) : impl_isWeak.f w = some (weakOk w) := by
  unfold impl_isWeak.f weakOk; rw [impl_within_v]; rfl

theorem impl_isByte_v (a : Int) : impl_isByte.f a = some (decide (0 ≤ a ∧ a ≤ 255)) := by
  unfold impl_isByte.f; rw [impl_within_v]; rfl

theorem spec_WeakHalves_v (w : Int) : spec_WeakHalves.f w = some (weakHalves w) := by
  unfold spec_WeakHalves.f weakHalves
  rw [spec_l3Ok_v, Option.bind_some]
  by_cases h : weakOk w = true
  · have h' : 0 ≤ w ∧ w ≤ 63000 := of_decide_eq_true h
    rw [if_pos h, if_pos h, tmod_nn h'.1, tdiv_nn h'.1, w64 (by omega) (by omega)]
  · rw [if_neg h, if_neg h]

theorem impl_WeakHalves_v (w : Int) : impl_WeakHalves.f w = some (weakHalves w) := by
  unfold impl_WeakHalves.f weakHalves
  rw [impl_isWeak_v, Option.bind_some]
  by_cases h : weakOk w = true
  · have h' : 0 ≤ w ∧ w ≤ 63000 := of_decide_eq_true h
    rw [if_pos h, if_pos h, tmod_nn h'.1, tdiv_nn h'.1, w64 (by omega) (by omega)]
  · rw [if_neg h, if_neg h]

theorem spec_Roll_v {k : Nat} (w n o i : Int) (hk : 1 < k) : spec_Roll.f k w n o i = some (roll w n o i) := by
  obtain ⟨k, rfl⟩ : ∃ m, k = m + 1 := ⟨k - 1, by omega⟩
  unfold spec_Roll.f roll
  simp only [spec_Roll.j0, spec_l3Ok_v, spec_l1In_v, Option.bind_some, weakOk]
  by_cases hw : 0 ≤ w ∧ w ≤ 63000
  · by_cases hn : 1 ≤ n ∧ n ≤ 1000000000000
    · by_cases ho : 0 ≤ o ∧ o ≤ 255
      · by_cases hi : 0 ≤ i ∧ i ≤ 255
        · have hm := roll_bd n w o ho.1 ho.2
          rw [decide_eq_true hw, decide_eq_true hn, decide_eq_true ho, decide_eq_true hi, if_pos rfl, if_pos rfl, if_pos rfl, if_neg (by decide), if_pos ⟨hw.1, hw.2, hn.1, hn.2, ho.1, ho.2, hi.1, hi.2⟩]
          simp only [spec_WeakHalves_v, Option.bind_some, weakHalves, weakOk, decide_eq_true hw, if_true]
          rw [tmod_nn (by omega : 0 ≤ n)]
          generalize n % 251 * o = p at hm ⊢
          rw [w64 (x := p) (by omega) (by omega), w64 (x := w / 251 - p) (by omega) (by omega), w64 (x := w % 251 - o) (by omega) (by omega), w64 (x := w % 251 - o + i) (by omega) (by omega),
            spec_Wrap_v (by omega) (by omega), spec_Wrap_v (by omega) (by omega)]
          simp only [Option.bind_some]
          rw [w64 (x := (w / 251 - p) % 251 + (w % 251 - o + i) % 251) (by omega) (by omega), spec_Wrap_v (by omega) (by omega)]
          simp only [Option.bind_some]
          rw [show ((w / 251 - p) % 251 + (w % 251 - o + i) % 251) % 251 = (w / 251 - p + w % 251 - o + i) % 251 from by omega]
          generalize (w / 251 - p + w % 251 - o + i) = z
          rw [w64 (x := 251 * (z % 251)) (by omega) (by omega), w64 (by omega) (by omega)]
        · rw [decide_eq_true hw, decide_eq_true hn, decide_eq_true ho, decide_eq_false hi, if_pos rfl, if_pos rfl, if_pos rfl, if_pos (by decide), if_neg (by omega)]
      · rw [decide_eq_true hw, decide_eq_true hn, decide_eq_false ho, if_pos rfl, if_pos rfl, if_neg (by decide), if_pos trivial, if_neg (by omega)]
    · rw [decide_eq_true hw, decide_eq_false hn, if_pos rfl, if_neg (by decide), if_pos trivial, if_neg (by omega)]
  · rw [decide_eq_false hw, if_neg (by decide), if_pos trivial, if_neg (by omega)]

theorem impl_Roll_v {k : Nat} (w n o i : Int) (hk : 1 < k) : impl_Roll.f k w n o i = some (roll w n o i) := by
  obtain ⟨k, rfl⟩ : ∃ m, k = m + 1 := ⟨k - 1, by omega⟩
  unfold impl_Roll.f roll
  simp only [impl_Roll.j0, impl_isWeak_v, impl_within_v, impl_isByte_v, Option.bind_some, weakOk]
  by_cases hw : 0 ≤ w ∧ w ≤ 63000
  · by_cases hn : 1 ≤ n ∧ n ≤ 1000000000000
    · by_cases ho : 0 ≤ o ∧ o ≤ 255
      · by_cases hi : 0 ≤ i ∧ i ≤ 255
        · have hm := roll_bd n w o ho.1 ho.2
          rw [decide_eq_true hw, decide_eq_true hn, decide_eq_true ho, decide_eq_true hi, if_pos rfl, if_pos rfl, if_pos rfl, if_neg (by decide), if_pos ⟨hw.1, hw.2, hn.1, hn.2, ho.1, ho.2, hi.1, hi.2⟩]
          simp only [impl_WeakHalves_v, Option.bind_some, weakHalves, weakOk, decide_eq_true hw, if_true]
          rw [tmod_nn (by omega : 0 ≤ n)]
          generalize n % 251 * o = p at hm ⊢
          rw [w64 (x := p) (by omega) (by omega), w64 (x := w / 251 - p) (by omega) (by omega), w64 (x := w % 251 - o) (by omega) (by omega), w64 (x := w % 251 - o + i) (by omega) (by omega),
            w64 (x := w / 251 - p + w % 251) (by omega) (by omega), w64 (x := w / 251 - p + w % 251 - o) (by omega) (by omega), w64 (x := w / 251 - p + w % 251 - o + i) (by omega) (by omega), impl_weak_v]
          rfl
        · rw [decide_eq_true hw, decide_eq_true hn, decide_eq_true ho, decide_eq_false hi, if_pos rfl, if_pos rfl, if_neg (by decide), if_pos trivial, if_neg (by omega)]
      · rw [decide_eq_true hw, decide_eq_true hn, decide_eq_false ho, if_pos rfl, if_neg (by decide), if_pos trivial, if_neg (by omega)]
    · rw [decide_eq_true hw, decide_eq_false hn, if_neg (by decide), if_pos trivial, if_neg (by omega)]
  · have hf : ¬ (0 ≤ w ∧ w ≤ 63000 ∧ 1 ≤ n ∧ n ≤ 1000000000000 ∧ 0 ≤ o ∧ o ≤ 255 ∧ 0 ≤ i ∧ i ≤ 255) := fun h => hw ⟨h.1, h.2.1⟩
    simp only [decide_eq_false hw, hf, if_false, Bool.not_false, if_true, ite_self]

theorem laws_big_v (l : List Int) : laws_big.f l = some (decide ((l.length : Int) > 1048576)) := rfl

theorem spec_Windows_l (l : List Int) (hb : Byt l) (n : Nat) (hn : 1 ≤ n) (hnl : n ≤ l.length) (hl : l.length ≤ 1000000000000) (d : Nat) : ∀ (k i : Nat) (acc : List Int), i + n ≤ l.length → l.length - (i + n) = d → d + 10 < k →
    acc = (List.range (i + 1)).map (fun j => weakOf (win l n j)) → spec_Windows.l0 k l (n : Int) acc (weakOf (win l n i)) ((i + n : Nat) : Int) = some ((List.range (l.length - n + 1)).map (fun j => weakOf (win l n j))) := by
  induction d with
  | zero =>
    intro k i acc hi hd hk hacc
    obtain ⟨k, rfl⟩ : ∃ m, k = m + 1 := ⟨k - 1, by omega⟩
    simp only [spec_Windows.l0]
    rw [if_neg (by omega), hacc, show l.length - n + 1 = i + 1 from by omega]
  | succ d ih =>
    intro k i acc hi hd hk hacc
    obtain ⟨k, rfl⟩ : ∃ m, k = m + 1 := ⟨k - 1, by omega⟩
    simp only [spec_Windows.l0]
    have ha : acc.length = i + 1 := by rw [hacc]; simp
    have c1 := hb l[i] (List.getElem_mem (by omega))
    have c2 := hb (l[i + n]'(by omega)) (List.getElem_mem (by omega))
    rw [if_pos (by omega), w64 (x := ((i + n : Nat) : Int) - (n : Int)) (by omega) (by omega), show ((i + n : Nat) : Int) - (n : Int) = (i : Int) from by omega, if_pos (by omega), if_pos (by omega), if_pos (by omega), rd_at (by omega : i < l.length), rd_at (by omega : i + n < l.length),
      w64 (x := l[i]) (by omega) (by omega), w64 (x := l[i + n]'(by omega)) (by omega) (by omega), spec_Roll_v _ _ _ _ (by omega), Option.bind_some, if_pos (by omega), win_roll hb hn hl (by omega), wnat (by omega), show i + n + 1 = i + 1 + n from by omega]
    refine ih k (i + 1) _ (by omega) (by omega) (by omega) ?_
    rw [hacc, List.range_succ (n := i + 1), List.map_append]; rfl
theorem spec_Windows_v {k : Nat} {l : List Int} (hb : Byt l) (hl : l.length ≤ 1000000000000) (n : Int) (hk : l.length + 20 < k) : spec_Windows.f k l n = some (windows l n) := by
  unfold spec_Windows.f windows
  obtain ⟨k, rfl⟩ : ∃ m, k = m + 1 := ⟨k - 1, by omega⟩
  simp only [Option.bind_some, spec_Windows.j0]
  by_cases h : 1 ≤ n ∧ n ≤ (l.length : Int)
  · obtain ⟨m, rfl⟩ := Int.eq_ofNat_of_zero_le (by omega : 0 ≤ n)
    rw [if_neg (by omega), decide_eq_false (by omega), if_neg (by decide), if_pos (by omega), if_pos h.2, Int.toNat_natCast, spec_WeakOf_v (byt_take hb _) (by simp; omega) (by simp; omega)]
    simp only [Option.bind_some, List.nil_append, List.length_nil]
    rw [if_pos (by omega), if_pos h]
    have hw : l.take m = win l m 0 := by simp [win]
    rw [hw]
    have := spec_Windows_l l hb m (by omega) (by omega) hl (l.length - (0 + m)) k 0 [weakOf (win l m 0)] (by omega) rfl (by omega) (by simp)
    rw [Nat.zero_add] at this
    exact this
  · rw [if_neg h]
    by_cases h1 : n < 1
    · rw [if_pos h1, if_pos trivial]
    · rw [if_neg h1, decide_eq_true (by omega), if_pos rfl]

theorem impl_Windows_l (l : List Int) (hb : Byt l) (n : Nat) (hn : 1 ≤ n) (hnl : n ≤ l.length) (hl : l.length ≤ 1000000000000) (d : Nat) : ∀ (k i : Nat) (acc : List Int), i + n ≤ l.length → l.length - (i + n) = d → d + 10 < k →
    acc = (List.range (i + 1)).map (fun j => weakOf (win l n j)) → impl_Windows.l0 k l (n : Int) acc (weakOf (win l n i)) ((i + n : Nat) : Int) = some ((List.range (l.length - n + 1)).map (fun j => weakOf (win l n j))) := by
  induction d with
  | zero =>
    intro k i acc hi hd hk hacc
    obtain ⟨k, rfl⟩ : ∃ m, k = m + 1 := ⟨k - 1, by omega⟩
    simp only [impl_Windows.l0]
    rw [if_neg (by omega), hacc, show l.length - n + 1 = i + 1 from by omega]
  | succ d ih =>
    intro k i acc hi hd hk hacc
    obtain ⟨k, rfl⟩ : ∃ m, k = m + 1 := ⟨k - 1, by omega⟩
    simp only [impl_Windows.l0]
    have ha : acc.length = i + 1 := by rw [hacc]; simp
    have c1 := hb l[i] (List.getElem_mem (by omega))
    have c2 := hb (l[i + n]'(by omega)) (List.getElem_mem (by omega))
    rw [if_pos (by omega), w64 (x := ((i + n : Nat) : Int) - (n : Int)) (by omega) (by omega), show ((i + n : Nat) : Int) - (n : Int) = (i : Int) from by omega, if_pos (by omega), if_pos (by omega), if_pos (by omega), rd_at (by omega : i < l.length), rd_at (by omega : i + n < l.length),
      w64 (x := l[i]) (by omega) (by omega), w64 (x := l[i + n]'(by omega)) (by omega) (by omega), impl_Roll_v _ _ _ _ (by omega), Option.bind_some, if_pos (by omega), win_roll hb hn hl (by omega), wnat (by omega), show i + n + 1 = i + 1 + n from by omega]
    refine ih k (i + 1) _ (by omega) (by omega) (by omega) ?_
    rw [hacc, List.range_succ (n := i + 1), List.map_append]; rfl
theorem impl_Windows_v {k : Nat} {l : List Int} (hb : Byt l) (hl : l.length ≤ 1000000000000) (n : Int) (hk : l.length + 20 < k) : impl_Windows.f k l n = some (windows l n) := by
  unfold impl_Windows.f windows
  simp only [Option.bind_some, impl_within_v]
  by_cases h : 1 ≤ n ∧ n ≤ (l.length : Int)
  · obtain ⟨m, rfl⟩ := Int.eq_ofNat_of_zero_le (by omega : 0 ≤ n)
    rw [decide_eq_true h, if_pos rfl, if_pos (by omega), if_pos h.2, Int.toNat_natCast, impl_WeakOf_v (byt_take hb _) (by simp; omega) (by simp; omega)]
    simp only [Option.bind_some, List.nil_append, List.length_nil]
    rw [if_pos (by omega), if_pos h]
    have hw : l.take m = win l m 0 := by simp [win]
    rw [hw]
    have := impl_Windows_l l hb m (by omega) (by omega) hl (l.length - (0 + m)) k 0 [weakOf (win l m 0)] (by omega) rfl (by omega) (by simp)
    rw [Nat.zero_add] at this
    exact this
  · rw [decide_eq_false h, if_neg (by decide), if_neg h]

theorem spec_FirstWindow_l (w : Int) (l : List Int) (hl : l.length ≤ 1000000000000) (d : Nat) : ∀ (k i : Nat), i ≤ l.length → l.length - i = d → d < k → spec_FirstWindow.l0 k w l (i : Int) = some (idxOf_ (l.drop i) w (i : Int)) := by
  induction d with
  | zero =>
    intro k i hi hd hk
    obtain ⟨k, rfl⟩ : ∃ m, k = m + 1 := ⟨k - 1, by omega⟩
    simp only [spec_FirstWindow.l0]
    rw [if_neg (by omega), List.drop_eq_nil_of_le (by omega)]; rfl
  | succ d ih =>
    intro k i hi hd hk
    obtain ⟨k, rfl⟩ : ∃ m, k = m + 1 := ⟨k - 1, by omega⟩
    simp only [spec_FirstWindow.l0]
    rw [if_pos (by omega), if_pos (by omega), rd_at (by omega : i < l.length), List.drop_eq_getElem_cons (by omega : i < l.length), idxOf_, wnat (by omega)]
    by_cases h : l[i]'(by omega) = w
    · rw [if_pos h, if_pos h]
    · rw [if_neg h, if_neg h, ih k (i + 1) (by omega) (by omega) (by omega)]; rfl
theorem spec_FirstWindow_v {k : Nat} {l : List Int} (hb : Byt l) (hl : l.length ≤ 1000000000000) (n w : Int) (hk : l.length + 20 < k) : spec_FirstWindow.f k l n w = some (idxOf_ (windows l n) w 0) := by
  unfold spec_FirstWindow.f
  rw [spec_Windows_v hb hl n hk, Option.bind_some]
  have := windows_length l n
  exact spec_FirstWindow_l w (windows l n) (by omega) (windows l n).length k 0 (by omega) (by omega) (by omega)

theorem slices_Index_int_int_l (w : Int) (l : List Int) (hl : l.length ≤ 1000000000000) (d : Nat) : ∀ (k i : Nat), i ≤ l.length → l.length - i = d → d < k → slices_Index_int_int.l0 k l w (l.length : Int) (i : Int) = some (idxOf_ (l.drop i) w (i : Int)) := by
  induction d with
  | zero =>
    intro k i hi hd hk
    obtain ⟨k, rfl⟩ : ∃ m, k = m + 1 := ⟨k - 1, by omega⟩
    simp only [slices_Index_int_int.l0]
    rw [if_neg (by omega), List.drop_eq_nil_of_le (by omega)]; rfl
  | succ d ih =>
    intro k i hi hd hk
    obtain ⟨k, rfl⟩ : ∃ m, k = m + 1 := ⟨k - 1, by omega⟩
    simp only [slices_Index_int_int.l0]
    rw [if_pos (by omega), if_pos (by omega), if_pos (by omega), rd_at (by omega : i < l.length), List.drop_eq_getElem_cons (by omega : i < l.length), idxOf_, wnat (by omega)]
    by_cases h : l[i]'(by omega) = w
    · rw [if_pos h.symm, if_pos h]
    · rw [if_neg (fun e => h e.symm), if_neg h, ih k (i + 1) (by omega) (by omega) (by omega)]; rfl
theorem slices_Index_int_int_v {k : Nat} {l : List Int} (hl : l.length ≤ 1000000000000) (w : Int) (hk : l.length < k) : slices_Index_int_int.f k l w = some (idxOf_ l w 0) := by
  unfold slices_Index_int_int.f
  exact slices_Index_int_int_l w l hl l.length k 0 (by omega) (by omega) (by omega)

theorem impl_FirstWindow_v {k : Nat} {l : List Int} (hb : Byt l) (hl : l.length ≤ 1000000000000) (n w : Int) (hk : l.length + 20 < k) : impl_FirstWindow.f k l n w = some (idxOf_ (windows l n) w 0) := by
  unfold impl_FirstWindow.f
  have := windows_length l n
  rw [impl_Windows_v hb hl n hk, Option.bind_some, slices_Index_int_int_v (by omega) w (by omega)]; rfl

theorem spec_l1New_l (b : List Int) (hb : b.length ≤ 1048576) (d : Nat) : ∀ (k i : Nat) (h : Int), i ≤ b.length → b.length - i = d → d < k → ∃ h', spec_l1New.l0 k b h (i : Int) = some (b, 0, h') := by
  induction d with
  | zero =>
    intro k i h hi hd hk
    obtain ⟨k, rfl⟩ : ∃ m, k = m + 1 := ⟨k - 1, by omega⟩
    simp only [spec_l1New.l0]
    rw [if_neg (by omega)]
    exact ⟨_, rfl⟩
  | succ d ih =>
    intro k i h hi hd hk
    obtain ⟨k, rfl⟩ : ∃ m, k = m + 1 := ⟨k - 1, by omega⟩
    simp only [spec_l1New.l0]
    rw [if_pos (by omega)]
    by_cases h4 : (i : Int) < 4000
    · rw [if_pos h4, if_pos (by omega), wnat (by omega)]
      exact ih k (i + 1) _ (by omega) (by omega) (by omega)
    · rw [if_neg h4]; exact ⟨_, rfl⟩
theorem spec_l1New_x {k : Nat} {b : List Int} (hb : b.length ≤ 1048576) (hk : b.length < k) : ∃ h', spec_l1New.f k b = some (b, 0, h') := by
  unfold spec_l1New.f
  exact spec_l1New_l b hb b.length k 0 _ (by omega) (by omega) hk
theorem cur_start {b : List Int} (hb : b.length ≤ 1048576) : Cur b 0 := ⟨hb, by omega, by omega⟩

theorem spec_l1Byte_x {b : List Int} {i : Int} (hc : Cur b i) (h : Int) : ∃ r i' h', spec_l1Byte.f b i h = some (r, i', h') ∧ 0 ≤ r ∧ r ≤ 255 ∧ Cur b i' := by
  obtain ⟨h0, h1, h2⟩ := hc
  unfold spec_l1Byte.f
  by_cases hi : i < (b.length : Int)
  · rw [if_pos hi, if_pos h1, w64 (x := i + 1) (by omega) (by omega)]
    exact ⟨_, _, _, rfl, (and_le _).1, (and_le _).2, h0, by omega, by omega⟩
  · rw [if_neg hi]
    exact ⟨_, _, _, rfl, (and_le _).1, (and_le _).2, h0, h1, h2⟩

theorem spec_l1Below_x {b : List Int} {i : Int} (hc : Cur b i) (h : Int) (n : Int) : ∃ r i' h', spec_l1Below.f b i h n = some (r, i', h') ∧ 0 ≤ r ∧ (n ≤ 0 → r = 0) ∧ (0 < n → r < n) ∧ Cur b i' := by
  unfold spec_l1Below.f
  by_cases hn : n ≤ 0
  · rw [if_pos hn]
    exact ⟨_, _, _, rfl, by omega, fun _ => rfl, fun h => by omega, hc⟩
  · rw [if_neg hn]
    by_cases h256 : n ≤ 256
    · rw [if_pos h256]
      obtain ⟨r, i', h', e, r0, r1, hc'⟩ := spec_l1Byte_x hc h
      rw [e, Option.bind_some, if_neg (by omega)]
      refine ⟨_, _, _, rfl, ?_, fun h => by omega, fun _ => ?_, hc'⟩ <;> dsimp only <;> rw [tmod_nn r0]
      · exact Int.emod_nonneg _ (by omega)
      · exact Int.emod_lt_of_pos _ (by omega)
    · rw [if_neg h256]
      obtain ⟨r, i', h', e, r0, r1, hc'⟩ := spec_l1Byte_x hc h
      obtain ⟨s, i'', h'', e', s0, s1, hc''⟩ := spec_l1Byte_x hc' h'
      obtain ⟨t, i3, h3, e3, t0, t1, hc3⟩ := spec_l1Byte_x hc'' h''
      rw [e, Option.bind_some, e', Option.bind_some, e3, Option.bind_some, if_neg (by omega)]
      refine ⟨_, _, _, rfl, ?_, fun h => by omega, fun _ => ?_, hc3⟩ <;> dsimp only <;> rw [w64 (x := r * 65536) (by omega) (by omega), w64 (x := s * 256) (by omega) (by omega), w64 (x := r * 65536 + s * 256) (by omega) (by omega), w64 (x := r * 65536 + s * 256 + t) (by omega) (by omega), tmod_nn (by omega)]
      · exact Int.emod_nonneg _ (by omega)
      · exact Int.emod_lt_of_pos _ (by omega)

theorem spec_l1Int_x {b : List Int} {i : Int} (hc : Cur b i) (h : Int) {l : List Int} (hl : 0 < l.length) : ∃ r i' h', spec_l1Int.f b i h l = some (r, i', h') ∧ r ∈ l ∧ Cur b i' := by
  unfold spec_l1Int.f
  obtain ⟨r, i', h', e, r0, r1, r2, hc'⟩ := spec_l1Below_x hc h (l.length : Int)
  have := r2 (by omega)
  rw [e, Option.bind_some, if_pos r0, if_pos this]
  refine ⟨_, _, _, rfl, ?_, hc'⟩
  obtain ⟨m, rfl⟩ := Int.eq_ofNat_of_zero_le r0
  dsimp only
  rw [rd_at (by omega : m < l.length)]
  exact List.getElem_mem _

theorem spec_l1Once_x {b : List Int} {i : Int} (hc : Cur b i) (h : Int) (n : Int) : ∃ (r : Bool) (i' h' : Int), spec_l1Once.f b i h n = some (r, i', h') ∧ Cur b i' := by
  unfold spec_l1Once.f
  obtain ⟨r, i', h', e, r0, r1, r2, hc'⟩ := spec_l1Below_x hc h n
  rw [e, Option.bind_some]
  exact ⟨_, _, _, rfl, hc'⟩

theorem spec_l3Bytes_l {b : List Int} (d : Nat) : ∀ (k : Nat) (acc : List Int) (i h : Int), Cur b i → Byt acc → acc.length + d ≤ 1000000 → d < k →
    ∃ r i' h', spec_l3Bytes.l0 k acc (d : Int) b i h = some (r, i', h') ∧ Byt r ∧ r.length = acc.length + d ∧ Cur b i' := by
  induction d with
  | zero =>
    intro k acc i h hc hb ha hk
    obtain ⟨k, rfl⟩ : ∃ m, k = m + 1 := ⟨k - 1, by omega⟩
    simp only [spec_l3Bytes.l0]
    rw [if_neg (by omega)]
    exact ⟨_, _, _, rfl, hb, rfl, hc⟩
  | succ d ih =>
    intro k acc i h hc hb ha hk
    obtain ⟨k, rfl⟩ : ∃ m, k = m + 1 := ⟨k - 1, by omega⟩
    simp only [spec_l3Bytes.l0]
    obtain ⟨r, i', h', e, hr, hc'⟩ := spec_l1Int_x hc h (l := [97, 98, 99, 0, 255]) (by decide)
    have hr2 : 0 ≤ r ∧ r ≤ 255 := by
      simp only [List.mem_cons, List.not_mem_nil, or_false] at hr
      omega
    rw [if_pos (by omega), e, Option.bind_some, if_pos (by omega), mod256 hr2.1 hr2.2, w64 (by omega) (by omega), show ((d + 1 : Nat) : Int) - 1 = (d : Int) from by omega]
    obtain ⟨r2, i2, h2, e2, b2, l2, c2⟩ := ih k (acc ++ [r]) i' h' hc' (byt_snoc.2 ⟨hb, hr2⟩) (by simp; omega) (by omega)
    exact ⟨r2, i2, h2, e2, b2, by rw [l2]; simp; omega, c2⟩
theorem spec_l3Bytes_x {k : Nat} {b : List Int} {i : Int} (hc : Cur b i) (h : Int) {n : Int} (h0 : 0 ≤ n) (h1 : n ≤ 1000) (hk : 2000 < k) : ∃ r i' h', spec_l3Bytes.f k b i h n = some (r, i', h') ∧ Byt r ∧ (r.length : Int) ≤ n ∧ Cur b i' := by
  unfold spec_l3Bytes.f
  rw [w64 (by omega) (by omega)]
  obtain ⟨r, i', h', e, r0, r1, r2, hc'⟩ := spec_l1Below_x hc h (n + 1)
  have := r2 (by omega)
  rw [e, Option.bind_some]
  obtain ⟨m, rfl⟩ := Int.eq_ofNat_of_zero_le r0
  obtain ⟨r2, i2, h2, e2, b2, l2, c2⟩ := spec_l3Bytes_l m k [] i' h' hc' byt_nil (by simp; omega) (by omega)
  exact ⟨r2, i2, h2, e2, b2, by rw [l2]; simp; omega, c2⟩

theorem spec_l3Weak_x {k : Nat} {b : List Int} {i : Int} (hc : Cur b i) (h : Int) (hk : 2000 < k) : ∃ r i' h', spec_l3Weak.f k b i h = some (r, i', h') ∧ -1 ≤ r ∧ r ≤ 63001 ∧ Cur b i' := by
  unfold spec_l3Weak.f
  obtain ⟨r, i', h', e, hc'⟩ := spec_l1Once_x hc h 8
  rw [e, Option.bind_some]
  cases r with
  | true =>
    obtain ⟨r, i2, h2, e2, hr, c2⟩ := spec_l1Int_x hc' h' (l := [(-1), 63000, 63001]) (by decide)
    rw [if_pos rfl, e2, Option.bind_some]
    simp only [List.mem_cons, List.not_mem_nil, or_false] at hr
    exact ⟨_, _, _, rfl, by first | omega | (dsimp only; omega), by first | omega | (dsimp only; omega), c2⟩
  | false =>
    obtain ⟨r, i2, h2, e2, rb, rl, c2⟩ := spec_l3Bytes_x (k := k) hc' h' (by omega : (0 : Int) ≤ 6) (by omega) (by omega)
    simp only [Bool.false_eq_true, if_false]
    rw [e2, Option.bind_some, spec_WeakOf_v rb (by omega) (by omega), Option.bind_some]
    have := weakOf_range r
    exact ⟨_, _, _, rfl, by first | omega | (dsimp only; omega), by first | omega | (dsimp only; omega), c2⟩

theorem laws_sameInts_l (a b : List Int) (hab : a.length = b.length) (hl : a.length ≤ 140737488355328) (d : Nat) : ∀ (k : Nat) (i : Nat), i ≤ a.length → a.length - i = d → d < k →
    laws_sameInts.l0 k a b (i : Int) = some (decide (a.drop i = b.drop i)) := by
  induction d with
  | zero =>
    intro k i hi hd hk
    obtain ⟨k, rfl⟩ : ∃ m, k = m + 1 := ⟨k - 1, by omega⟩
    simp only [laws_sameInts.l0]
    rw [if_neg (by omega), List.drop_eq_nil_of_le (by omega), List.drop_eq_nil_of_le (by omega)]
    rfl
  | succ d ih =>
    intro k i hi hd hk
    obtain ⟨k, rfl⟩ : ∃ m, k = m + 1 := ⟨k - 1, by omega⟩
    simp only [laws_sameInts.l0]
    rw [if_pos (by omega), if_pos (by omega), if_pos (by omega), wnat (by omega), rd_at (by omega : i < a.length), rd_at (by omega : i < b.length), ih k (i + 1) (by omega) (by omega) (by omega)]
    have e := drop_eq_iff (a := a) (b := b) (i := i) (by omega) (by omega)
    by_cases h : a[i]'(by omega) = b[i]'(by omega)
    · rw [if_pos h]; simp only [e, h, true_and]
    · rw [if_neg h]; simp only [e, h, false_and, decide_false]
theorem laws_sameInts_v {k : Nat} {a b : List Int} (hl : a.length ≤ 140737488355328) (hk : a.length < k) : laws_sameInts.f k a b = some (decide (a = b)) := by
  unfold laws_sameInts.f
  by_cases h : a.length = b.length
  · rw [if_pos (by omega)]
    exact laws_sameInts_l a b h hl a.length k 0 (by omega) (by omega) hk
  · rw [if_neg (by omega)]
    have : a ≠ b := fun e => h (by rw [e])
    simp [this]

theorem spec_DrawWindows_x {k : Nat} {b : List Int} (hb : b.length ≤ 1048576) (hk : 1049000 < k) : ∃ x n, spec_DrawWindows.f k b = some (x, n) ∧ Byt x ∧ x.length ≤ 14 ∧ -1 ≤ n ∧ n ≤ 20 := by
  unfold spec_DrawWindows.f
  obtain ⟨h, e⟩ := spec_l1New_x (k := k) hb (by omega)
  obtain ⟨r, i', h', e', rb, rl, hc⟩ := spec_l3Bytes_x (k := k) (cur_start hb) h (by omega : (0 : Int) ≤ 14) (by omega) (by omega)
  obtain ⟨n, i2, h2, e2, hn, hc2⟩ := spec_l1Int_x hc h' (l := [1, 2, 3, 4, 6, 0, (-1), 20]) (by decide)
  simp only [List.mem_cons, List.not_mem_nil, or_false] at hn
  rw [e, Option.bind_some, e', Option.bind_some, e2, Option.bind_some]
  exact ⟨r, n, rfl, rb, by omega, by omega, by omega⟩

theorem spec_DrawRoll_x {k : Nat} {b : List Int} (hb : b.length ≤ 1048576) (hk : 1049000 < k) : ∃ w n o i, spec_DrawRoll.f k b = some (w, n, o, i) := by
  unfold spec_DrawRoll.f
  obtain ⟨h, e⟩ := spec_l1New_x (k := k) hb (by omega)
  obtain ⟨r, i', h', e', _, _, hc⟩ := spec_l3Weak_x (k := k) (cur_start hb) h (by omega)
  obtain ⟨r2, i2, h2, e2, _, _, _, c2⟩ := spec_l1Below_x hc h' 6
  obtain ⟨o, i3, h3, e3, c3⟩ := spec_l1Once_x c2 h2 8
  simp only [e, e', e2, e3, Option.bind_some]
  cases o with
  | true =>
    obtain ⟨x4, i4, h4, e4, _, c4⟩ := spec_l1Int_x c3 h3 (l := [0, (-1), 252]) (by decide)
    obtain ⟨x5, i5, h5, e5, _, c5⟩ := spec_l1Int_x c4 h4 (l := [0, 97, 255, 256, (-1)]) (by decide)
    obtain ⟨x6, i6, h6, e6, _, c6⟩ := spec_l1Int_x c5 h5 (l := [0, 98, 255, 256]) (by decide)
    simp only [if_true, e4, e5, e6, Option.bind_some]
    exact ⟨_, _, _, _, rfl⟩
  | false =>
    obtain ⟨x5, i5, h5, e5, _, c5⟩ := spec_l1Int_x c3 h3 (l := [0, 97, 255, 256, (-1)]) (by decide)
    obtain ⟨x6, i6, h6, e6, _, c6⟩ := spec_l1Int_x c5 h5 (l := [0, 98, 255, 256]) (by decide)
    simp only [Bool.false_eq_true, if_false, e5, e6, Option.bind_some]
    exact ⟨_, _, _, _, rfl⟩

theorem spec_DrawWeakHalves_x {k : Nat} {b : List Int} (hb : b.length ≤ 1048576) (hk : 1049000 < k) : ∃ w, spec_DrawWeakHalves.f k b = some w := by
  unfold spec_DrawWeakHalves.f
  obtain ⟨h, e⟩ := spec_l1New_x (k := k) hb (by omega)
  obtain ⟨r, i', h', e', _, _, hc⟩ := spec_l3Weak_x (k := k) (cur_start hb) h (by omega)
  simp only [e, e', Option.bind_some]
  exact ⟨_, rfl⟩

theorem spec_DrawFirstWindow_x {k : Nat} {b : List Int} (hb : b.length ≤ 1048576) (hk : 1049000 < k) : ∃ x n w, spec_DrawFirstWindow.f k b = some (x, n, w) ∧ Byt x ∧ x.length ≤ 14 := by
  unfold spec_DrawFirstWindow.f
  obtain ⟨h, e⟩ := spec_l1New_x (k := k) hb (by omega)
  obtain ⟨x, i1, h1, e1, xb, xl, c1⟩ := spec_l3Bytes_x (k := k) (cur_start hb) h (by omega : (0 : Int) ≤ 14) (by omega) (by omega)
  obtain ⟨r, i2, h2, e2, _, _, _, c2⟩ := spec_l1Below_x c1 h1 5
  simp only [e, e1, e2, Option.bind_some]
  rw [spec_Windows_v xb (by omega) _ (by omega), Option.bind_some]
  have fin : ∀ (t : Bool) (i h : Int), Cur b i → (t = true → 0 < (windows x (wrap64 (1 + r))).length) → ∃ y n w, spec_DrawFirstWindow.j0 k x (wrap64 (1 + r)) (windows x (wrap64 (1 + r))) t b i h = some (y, n, w) ∧ Byt y ∧ y.length ≤ 14 := by
    intro t i h hc ht
    obtain ⟨k, rfl⟩ : ∃ m, k = m + 1 := ⟨k - 1, by omega⟩
    simp only [spec_DrawFirstWindow.j0]
    cases t with
    | true =>
      obtain ⟨r3, i3, h3, e3, p0, _, p2, c3⟩ := spec_l1Below_x hc h ((windows x (wrap64 (1 + r))).length : Int)
      have := ht rfl
      have := p2 (by omega)
      simp only [if_true, e3, Option.bind_some]
      rw [if_pos p0, if_pos (by omega)]
      exact ⟨_, _, _, rfl, xb, by omega⟩
    | false =>
      obtain ⟨r3, i3, h3, e3, _, _, c3⟩ := spec_l3Weak_x (k := k) hc h (by omega)
      simp only [Bool.false_eq_true, if_false, e3, Option.bind_some]
      exact ⟨_, _, _, rfl, xb, by omega⟩
  by_cases hp : ((windows x (wrap64 (1 + r))).length : Int) > 0
  · obtain ⟨o, i3, h3, e3, c3⟩ := spec_l1Once_x c2 h2 4
    rw [if_pos hp, e3, Option.bind_some]
    exact fin _ _ _ c3 (fun _ => by omega)
  · rw [if_neg hp]
    exact fin _ _ _ c2 (fun h => by cases h)

theorem FnWeaks_l {k0 : Nat} {b : List Int} (hb : Byt b) (hl : b.length ≤ 14) (n : Int) (d : Nat) : ∀ (k i : Nat), i ≤ (windows b n).length → (windows b n).length - i = d → d + 100 < k →
    laws_FnWeaks.l0 k b n (windows b n) (i : Int) = some true := by
  induction d with
  | zero =>
    intro k i hi hd hk
    obtain ⟨k, rfl⟩ : ∃ m, k = m + 1 := ⟨k - 1, by omega⟩
    simp only [laws_FnWeaks.l0]
    rw [if_neg (by omega)]
    by_cases h1 : n < 1
    · rw [if_pos h1]
    · by_cases h2 : n > (b.length : Int)
      · rw [if_neg h1, if_pos h2]
      · rw [if_neg h1, if_neg h2, w64 (x := (b.length : Int) - n) (by omega) (by omega), w64 (by omega) (by omega)]
        have : ((windows b n).length : Int) = (b.length : Int) - n + 1 := by unfold windows; rw [if_pos (by omega)]; simp; omega
        rw [this]; simp
  | succ d ih =>
    intro k i hi hd hk
    obtain ⟨k, rfl⟩ : ∃ m, k = m + 1 := ⟨k - 1, by omega⟩
    simp only [laws_FnWeaks.l0]
    have hlt : i < (windows b n).length := by omega
    have hn : 1 ≤ n ∧ n ≤ (b.length : Int) := by
      by_cases h : 1 ≤ n ∧ n ≤ (b.length : Int)
      · exact h
      · unfold windows at hlt; rw [if_neg h] at hlt; simp at hlt
    obtain ⟨m, rfl⟩ := Int.eq_ofNat_of_zero_le (by omega : 0 ≤ n)
    have hwl : (windows b (m : Int)).length = b.length - m + 1 := by unfold windows; rw [if_pos hn]; simp
    have hg : rd (windows b (m : Int)) (i : Int) = weakOf (win b m i) := by
      rw [rd_at hlt]
      unfold windows
      simp only [if_pos hn, Int.toNat_natCast]
      simp
    have hwb : Byt (win b m i) := byt_take (byt_drop hb i) m
    have hwn : (win b m i).length = m := win_length (by omega)
    rw [if_pos (by omega), if_pos (by omega), w64 (x := (i : Int) + (m : Int)) (by omega) (by omega), if_pos (by omega), if_pos (by omega), show ((i : Int) + (m : Int)).toNat = i + m from by omega, Int.toNat_natCast, take_drop_win, hg, impl_WeakOf_v hwb (by omega) (by omega), Option.bind_some, if_pos rfl, spec_WeakOf_v hwb (by omega) (by omega), Option.bind_some, if_pos rfl, wnat (by omega)]
    exact ih k (i + 1) (by omega) (by omega) (by omega)
theorem FnWeaks : laws_FnWeaks.Pure := by
  intro l hm hr hw
  refine exists_ge 1050000 _ (fun k hk => ?_)
  unfold laws_FnWeaks.f
  rw [laws_big_v, Option.bind_some]
  by_cases hbig : (l.length : Int) > 1048576
  · rw [if_pos (decide_eq_true hbig)]
  · rw [if_neg (by simpa using hbig)]
    obtain ⟨b, n, e1, bb, bl, n0, n1⟩ := spec_DrawWindows_x (k := k) (b := l) (by omega) (by omega)
    obtain ⟨w, m, o, i, e2⟩ := spec_DrawRoll_x (k := k) (b := l) (by omega) (by omega)
    obtain ⟨v, e3⟩ := spec_DrawWeakHalves_x (k := k) (b := l) (by omega) (by omega)
    obtain ⟨x, y, z, e4, xb, xl⟩ := spec_DrawFirstWindow_x (k := k) (b := l) (by omega) (by omega)
    have hwl := windows_length b n
    simp only [e1, e2, e3, e4, Option.bind_some]
    rw [impl_Windows_v bb (by omega) n (by omega), Option.bind_some, impl_WeakHalves_v, Option.bind_some, spec_WeakHalves_v, Option.bind_some, impl_Roll_v _ _ _ _ (by omega), Option.bind_some, spec_Roll_v _ _ _ _ (by omega), Option.bind_some, if_pos rfl, spec_Windows_v bb (by omega) n (by omega), Option.bind_some, laws_sameInts_v (by omega) (by omega), Option.bind_some, decide_eq_true rfl, if_pos rfl, if_pos rfl, if_pos rfl, impl_FirstWindow_v xb (by omega) _ _ (by omega), Option.bind_some, spec_FirstWindow_v xb (by omega) _ _ (by omega), Option.bind_some, bne_self_eq_false]
    obtain ⟨k, rfl⟩ : ∃ m, k = m + 1 := ⟨k - 1, by omega⟩
    simp only [laws_FnWeaks.j0, Bool.false_eq_true, if_false]
    exact FnWeaks_l (k0 := k) bb bl n _ k 0 (by omega) rfl (by omega)

end Go.Proofs.Ytfmhhjlhaklljaa.Pure
