/- FindSum returns what the reference's FindSum returns, in memory of its own, and leaves its arguments as they were, for all arguments; no condition. -/
import Derived.Test.YtbhpnckebecffaaPFnExactFindSumx6
import Derived.Test.YtbhpnckebecffaaLib
set_option linter.unusedVariables false
set_option linter.unusedSimpArgs false
namespace Go.Proofs.Ytbhpnckebecffaa.Pure
open Go.RowKit Go.Proofs.Ytbhpnckebecffaa.PFnExactFindSum Go.Proofs.YtbhpnckebecffaaW.PrintWords Go.Proofs.YtbhpnckebecffaaW.PrintLast Go.Proofs.YtbhpnckebecffaaW.PrintMore Go.Proofs.Ytbhpnckebecffaa.Lib

theorem spec_l1In_v (a b c : Int) : spec_l1In.f a b c = some (decide (b ≤ a ∧ a ≤ c)) := by
  unfold spec_l1In.f
  by_cases h : b ≤ a
  · rw [if_pos h]; simp [h]
  · rw [if_neg h]; simp [h]

theorem impl_within_v (a b c : Int) : impl_within.f a b c = some (decide (b ≤ a ∧ a ≤ c)) := by
  unfold impl_within.f
  by_cases h : b ≤ a
  · rw [if_pos h]; simp [h]
  · rw [if_neg h]; simp [h]

theorem laws_toByteS_l (l : List Int) (hl : l.length ≤ 140737488351232) (d : Nat) : ∀ (k : Nat) (out : List Int) (i : Nat), out.length = l.length → i ≤ l.length → l.length - i = d → d < k →
    (∀ j, j < i → out[j]? = l[j]?) → laws_toByteS.l0 k l out (i : Int) = some l := by
  induction d with
  | zero =>
    intro k out i ho hi hd hk hj
    obtain ⟨k, rfl⟩ : ∃ m, k = m + 1 := ⟨k - 1, by omega⟩
    simp only [laws_toByteS.l0]
    rw [if_neg (by omega)]
    congr 1
    apply List.ext_getElem?
    intro j
    by_cases hjl : j < i
    · exact hj j hjl
    · rw [List.getElem?_eq_none (by omega), List.getElem?_eq_none (by omega)]
  | succ d ih =>
    intro k out i ho hi hd hk hj
    obtain ⟨k, rfl⟩ : ∃ m, k = m + 1 := ⟨k - 1, by omega⟩
    simp only [laws_toByteS.l0]
    rw [if_pos (by omega), if_pos (by omega), if_pos (by omega), wnat (by omega), rd_at (by omega : i < l.length)]
    refine ih k _ (i + 1) (by simp [ho]) (by omega) (by omega) (by omega) (fun j h => ?_)
    rw [Int.toNat_natCast, List.getElem?_set]
    by_cases e : i = j
    · subst e; rw [if_pos rfl, if_pos (by omega), List.getElem?_eq_getElem]
    · rw [if_neg e]; exact hj j (by omega)
theorem laws_toByteS_v {k : Nat} {l : List Int} (hl : l.length ≤ 140737488351232) (hk : l.length < k) : laws_toByteS.f k l = some l := by
  unfold laws_toByteS.f
  rw [if_pos (by omega), if_pos (by omega)]
  exact laws_toByteS_l l hl l.length k _ 0 (by simp) (by omega) (by omega) hk (fun j h => by omega)

theorem laws_eqByteS_l (a b : List Int) (hab : a.length = b.length) (hl : a.length ≤ 140737488355328) (d : Nat) : ∀ (k : Nat) (i : Nat), i ≤ a.length → a.length - i = d → d < k →
    laws_eqByteS.l0 k a b (i : Int) = some (decide (a.drop i = b.drop i)) := by
  induction d with
  | zero =>
    intro k i hi hd hk
    obtain ⟨k, rfl⟩ : ∃ m, k = m + 1 := ⟨k - 1, by omega⟩
    simp only [laws_eqByteS.l0]
    rw [if_neg (by omega), List.drop_eq_nil_of_le (by omega), List.drop_eq_nil_of_le (by omega)]
    rfl
  | succ d ih =>
    intro k i hi hd hk
    obtain ⟨k, rfl⟩ : ∃ m, k = m + 1 := ⟨k - 1, by omega⟩
    simp only [laws_eqByteS.l0]
    rw [if_pos (by omega), if_pos (by omega), if_pos (by omega), wnat (by omega), rd_at (by omega : i < a.length), rd_at (by omega : i < b.length), ih k (i + 1) (by omega) (by omega) (by omega)]
    have e := drop_eq_iff (a := a) (b := b) (i := i) (by omega) (by omega)
    by_cases h : a[i]'(by omega) = b[i]'(by omega)
    · rw [if_pos h]; simp only [e, h, true_and]
    · rw [if_neg h]; simp only [e, h, false_and, decide_false]
theorem laws_eqByteS_v {k : Nat} {a b : List Int} (hl : a.length ≤ 140737488355328) (hk : a.length < k) : laws_eqByteS.f k a b = some (decide (a = b)) := by
  unfold laws_eqByteS.f
  by_cases h : a.length = b.length
  · rw [if_pos (by omega)]
    exact laws_eqByteS_l a b h hl a.length k 0 (by omega) (by omega) hk
  · rw [if_neg (by omega)]
    have : a ≠ b := fun e => h (by rw [e])
    simp [this]

theorem spec_Wrap_v {a m : Int} (h0 : 1 ≤ m) (h1 : m ≤ 1000000000000) : spec_Wrap.f a m = some (a % m) := by
  unfold spec_Wrap.f
  rw [spec_l1In_v, Option.bind_some, decide_eq_true (by omega), if_pos rfl, if_neg (by omega)]
  have h2 : a.tmod m = a - m * a.tdiv m := by have := Int.mul_tdiv_add_tmod a m; omega
  have h3 : -m < a.tmod m ∧ a.tmod m < m := ⟨by have := Int.lt_tmod_of_pos a (by omega : 0 < m); omega, Int.tmod_lt_of_pos a (by omega)⟩
  rw [w64 (by omega) (by omega), tmod_nn (by omega), Int.add_emod_right, h2, Int.sub_mul_emod_self_left]

theorem impl_Wrap_v {a m : Int} (h0 : 1 ≤ m) (h1 : m ≤ 1000000000000) : impl_Wrap.f a m = some (a % m) := by
  unfold impl_Wrap.f
  rw [impl_within_v, Option.bind_some, decide_eq_true (by omega), if_pos rfl, if_neg (by omega)]
  have h2 : a.tmod m = a - m * a.tdiv m := by have := Int.mul_tdiv_add_tmod a m; omega
  have h3 : -m < a.tmod m ∧ a.tmod m < m := ⟨by have := Int.lt_tmod_of_pos a (by omega : 0 < m); omega, Int.tmod_lt_of_pos a (by omega)⟩
  rw [w64 (by omega) (by omega), tmod_nn (by omega), Int.add_emod_right, h2, Int.sub_mul_emod_self_left]

theorem impl_weak_v (x y : Int) : impl_weak.f x y = some (x % 251 + 251 * (y % 251)) := by
  unfold impl_weak.f
  rw [impl_Wrap_v (by omega) (by omega), impl_Wrap_v (by omega) (by omega)]
  simp only [Option.bind_some]
  rw [w64 (x := 251 * (y % 251)) (by omega) (by omega), w64 (by omega) (by omega)]

theorem spec_WeakOf_l (l : List Int) (hb : Byt l) (hl : l.length ≤ 140737488351232) (d : Nat) : ∀ (k : Nat) (i : Nat), i ≤ l.length → l.length - i = d → d < k →
    spec_WeakOf.l0 k l (sx (l.take i) % 251) (sy (l.take i) % 251) (i : Int) = some (weakOf l) := by
  induction d with
  | zero =>
    intro k i hi hd hk
    obtain ⟨k, rfl⟩ : ∃ m, k = m + 1 := ⟨k - 1, by omega⟩
    simp only [spec_WeakOf.l0]
    rw [if_neg (by omega), List.take_of_length_le (by omega), w64 (x := 251 * (sy l % 251)) (by omega) (by omega), w64 (by omega) (by omega)]
    rfl
  | succ d ih =>
    intro k i hi hd hk
    obtain ⟨k, rfl⟩ : ∃ m, k = m + 1 := ⟨k - 1, by omega⟩
    simp only [spec_WeakOf.l0]
    have hc := hb l[i] (List.getElem_mem (by omega))
    rw [if_pos (by omega), if_pos (by omega), wnat (by omega), rd_at (by omega : i < l.length), w64 (x := l[i]) (by omega) (by omega), w64 (by omega) (by omega), tmod_nn (by omega), w64 (by omega) (by omega), tmod_nn (by omega)]
    have e : l.take (i + 1) = l.take i ++ [l[i]] := List.take_succ_eq_append_getElem (by omega)
    have := ih k (i + 1) (by omega) (by omega) (by omega)
    rw [e, sx_snoc, sy_snoc] at this
    rw [show (sx (l.take i) % 251 + l[i]) % 251 = (sx (l.take i) + l[i]) % 251 from by omega, show (sy (l.take i) % 251 + (sx (l.take i) + l[i]) % 251) % 251 = (sy (l.take i) + sx (l.take i) + l[i]) % 251 from by omega]
    exact this
theorem spec_WeakOf_v {k : Nat} {l : List Int} (hb : Byt l) (hl : l.length ≤ 140737488351232) (hk : l.length < k) : spec_WeakOf.f k l = some (weakOf l) := by
  unfold spec_WeakOf.f
  exact spec_WeakOf_l l hb hl l.length k 0 (by omega) (by omega) hk

theorem impl_WeakOf_l (l : List Int) (hb : Byt l) (hl : l.length ≤ 140737488351232) (d : Nat) : ∀ (k : Nat) (i : Nat), i ≤ l.length → l.length - i = d → d < k →
    impl_WeakOf.l0 k (sx (l.take i) % 251) (sy (l.take i) % 251) l (l.length : Int) (i : Int) = some (weakOf l) := by
  induction d with
  | zero =>
    intro k i hi hd hk
    obtain ⟨k, rfl⟩ : ∃ m, k = m + 1 := ⟨k - 1, by omega⟩
    simp only [impl_WeakOf.l0]
    rw [if_neg (by omega), impl_weak_v, List.take_of_length_le (by omega)]
    simp only [Option.bind_some, weakOf, Int.emod_emod]
  | succ d ih =>
    intro k i hi hd hk
    obtain ⟨k, rfl⟩ : ∃ m, k = m + 1 := ⟨k - 1, by omega⟩
    simp only [impl_WeakOf.l0]
    have hc := hb l[i] (List.getElem_mem (by omega))
    rw [if_pos (by omega), if_pos (by omega), if_pos (by omega), wnat (by omega), rd_at (by omega : i < l.length), w64 (x := l[i]) (by omega) (by omega), w64 (by omega) (by omega), tmod_nn (by omega), w64 (by omega) (by omega), tmod_nn (by omega)]
    have e : l.take (i + 1) = l.take i ++ [l[i]] := List.take_succ_eq_append_getElem (by omega)
    have := ih k (i + 1) (by omega) (by omega) (by omega)
    rw [e, sx_snoc, sy_snoc] at this
    rw [show (sx (l.take i) % 251 + l[i]) % 251 = (sx (l.take i) + l[i]) % 251 from by omega, show (sy (l.take i) % 251 + (sx (l.take i) + l[i]) % 251) % 251 = (sy (l.take i) + sx (l.take i) + l[i]) % 251 from by omega]
    exact this
theorem impl_WeakOf_v {k : Nat} {l : List Int} (hb : Byt l) (hl : l.length ≤ 140737488351232) (hk : l.length < k) : impl_WeakOf.f k l = some (weakOf l) := by
  unfold impl_WeakOf.f
  exact impl_WeakOf_l l hb hl l.length k 0 (by omega) (by omega) hk

theorem spec_l3Ok_v (w : Int) : spec_l3Ok.f w = some (weakOk w) := by
  unfold spec_l3Ok.f weakOk; rw [spec_l1In_v]; rfl

theorem spec_WeakHalves_v (w : Int) : spec_WeakHalves.f w = some (weakHalves w) := by
  unfold spec_WeakHalves.f weakHalves
  rw [spec_l3Ok_v, Option.bind_some]
  by_cases h : weakOk w = true
  · have h' : 0 ≤ w ∧ w ≤ 63000 := of_decide_eq_true h
    rw [if_pos h, if_pos h, tmod_nn h'.1, tdiv_nn h'.1, w64 (by omega) (by omega)]
  · rw [if_neg h, if_neg h]

theorem spec_Roll_v {k : Nat} (w n o i : Int) (hk : 1 < k) : spec_Roll.f k w n o i = some (roll w n o i) := by
  obtain ⟨k, rfl⟩ : ∃ m, k = m + 1 := ⟨k - 1, by omega⟩
  unfold spec_Roll.f roll
  simp only [spec_Roll.j0, spec_l3Ok_v, spec_l1In_v, Option.bind_some, weakOk]
  by_cases hw : 0 ≤ w ∧ w ≤ 63000
  · by_cases hn : 1 ≤ n ∧ n ≤ 1000000000000
    · by_cases ho : 0 ≤ o ∧ o ≤ 255
      · by_cases hi : 0 ≤ i ∧ i ≤ 255
        · have hm := roll_bd n w o ho.1 ho.2
          rw [decide_eq_true hw, decide_eq_true hn, decide_eq_true ho, decide_eq_true hi, if_pos rfl, if_pos rfl, if_pos rfl, if_neg (by decide), if_pos ⟨hw.1, hw.2, hn.1, hn.2, ho.1, ho.2, hi.1, hi.2⟩]
          simp only [spec_WeakHalves_v, Option.bind_some, weakHalves, weakOk, decide_eq_true hw, if_true]
          rw [tmod_nn (by omega : 0 ≤ n)]
          generalize n % 251 * o = p at hm ⊢
          rw [w64 (x := p) (by omega) (by omega), w64 (x := w / 251 - p) (by omega) (by omega), w64 (x := w % 251 - o) (by omega) (by omega), w64 (x := w % 251 - o + i) (by omega) (by omega),
            spec_Wrap_v (by omega) (by omega), spec_Wrap_v (by omega) (by omega)]
          simp only [Option.bind_some]
          rw [w64 (x := (w / 251 - p) % 251 + (w % 251 - o + i) % 251) (by omega) (by omega), spec_Wrap_v (by omega) (by omega)]
          simp only [Option.bind_some]
          rw [show ((w / 251 - p) % 251 + (w % 251 - o + i) % 251) % 251 = (w / 251 - p + w % 251 - o + i) % 251 from by omega]
          generalize (w / 251 - p + w % 251 - o + i) = z
          rw [w64 (x := 251 * (z % 251)) (by omega) (by omega), w64 (by omega) (by omega)]
        · rw [decide_eq_true hw, decide_eq_true hn, decide_eq_true ho, decide_eq_false hi, if_pos rfl, if_pos rfl, if_pos rfl, if_pos (by decide), if_neg (by omega)]
      · rw [decide_eq_true hw, decide_eq_true hn, decide_eq_false ho, if_pos rfl, if_pos rfl, if_neg (by decide), if_pos trivial, if_neg (by omega)]
    · rw [decide_eq_true hw, decide_eq_false hn, if_pos rfl, if_neg (by decide), if_pos trivial, if_neg (by omega)]
  · rw [decide_eq_false hw, if_neg (by decide), if_pos trivial, if_neg (by omega)]

theorem spec_SumOf_l (l : List Int) (hb : Byt l) (hl : l.length ≤ 6) (d : Nat) : ∀ (k : Nat) (i : Nat), i ≤ l.length → l.length - i = d → d + 10 < k → spec_SumOf.l0 k l (sumS (l.take i)) (i : Int) = some (weakOf l, sumS l) := by
  induction d with
  | zero =>
    intro k i hi hd hk
    obtain ⟨k, rfl⟩ : ∃ m, k = m + 1 := ⟨k - 1, by omega⟩
    simp only [spec_SumOf.l0]
    rw [if_neg (by omega), spec_WeakOf_v hb (by omega) (by omega), List.take_of_length_le (by omega)]; rfl
  | succ d ih =>
    intro k i hi hd hk
    obtain ⟨k, rfl⟩ : ∃ m, k = m + 1 := ⟨k - 1, by omega⟩
    simp only [spec_SumOf.l0]
    have hc := hb l[i] (List.getElem_mem (by omega))
    have h1 := sumS_small (l := l.take i) (byt_take hb i) (by simp; omega)
    rw [if_pos (by omega), if_pos (by omega), wnat (by omega), rd_at (by omega : i < l.length), w64 (x := 256 * sumS (l.take i)) (by omega) (by omega), w64 (x := l[i]) (by omega) (by omega), w64 (by omega) (by omega)]
    have e : l.take (i + 1) = l.take i ++ [l[i]] := List.take_succ_eq_append_getElem (by omega)
    have := ih k (i + 1) (by omega) (by omega) (by omega)
    rw [e, sumS_snoc, Int.mul_comm] at this
    exact this
theorem spec_SumOf_v {k : Nat} {l : List Int} (hb : Byt l) (hk : 20 < k) : spec_SumOf.f k l = some (sumOf l) := by
  unfold spec_SumOf.f sumOf
  by_cases h : l.length ≤ 6
  · rw [if_neg (by omega), if_pos h]
    exact spec_SumOf_l l hb h l.length k 0 (by omega) (by omega) (by omega)
  · rw [if_pos (by omega), if_neg h]

theorem impl_SumOf_l (l : List Int) (hb : Byt l) (hl : l.length ≤ 6) (d : Nat) : ∀ (k : Nat) (i : Nat), i ≤ l.length → l.length - i = d → d + 10 < k → impl_SumOf.l0 k l (sumS (l.take i)) l (l.length : Int) (i : Int) = some (weakOf l, sumS l) := by
  induction d with
  | zero =>
    intro k i hi hd hk
    obtain ⟨k, rfl⟩ : ∃ m, k = m + 1 := ⟨k - 1, by omega⟩
    simp only [impl_SumOf.l0]
    rw [if_neg (by omega), impl_WeakOf_v hb (by omega) (by omega), List.take_of_length_le (by omega)]; rfl
  | succ d ih =>
    intro k i hi hd hk
    obtain ⟨k, rfl⟩ : ∃ m, k = m + 1 := ⟨k - 1, by omega⟩
    simp only [impl_SumOf.l0]
    have hc := hb l[i] (List.getElem_mem (by omega))
    have h1 := sumS_small (l := l.take i) (byt_take hb i) (by simp; omega)
    rw [if_pos (by omega), if_pos (by omega), if_pos (by omega), wnat (by omega), rd_at (by omega : i < l.length), w64 (x := sumS (l.take i) * 256) (by omega) (by omega), w64 (x := l[i]) (by omega) (by omega), or_256 (by omega) (by omega) hc.1 hc.2]
    have e : l.take (i + 1) = l.take i ++ [l[i]] := List.take_succ_eq_append_getElem (by omega)
    have := ih k (i + 1) (by omega) (by omega) (by omega)
    rw [e, sumS_snoc] at this
    exact this
theorem impl_SumOf_v {k : Nat} {l : List Int} (hb : Byt l) (hk : 20 < k) : impl_SumOf.f k l = some (sumOf l) := by
  unfold impl_SumOf.f sumOf
  by_cases h : l.length ≤ 6
  · rw [if_neg (by omega), if_pos h]
    exact impl_SumOf_l l hb h l.length k 0 (by omega) (by omega) (by omega)
  · rw [if_pos (by omega), if_neg h]

theorem spec_Windows_l (l : List Int) (hb : Byt l) (n : Nat) (hn : 1 ≤ n) (hnl : n ≤ l.length) (hl : l.length ≤ 1000000000000) (d : Nat) : ∀ (k i : Nat) (acc : List Int), i + n ≤ l.length → l.length - (i + n) = d → d + 10 < k →
    acc = (List.range (i + 1)).map (fun j => weakOf (win l n j)) → spec_Windows.l0 k l (n : Int) acc (weakOf (win l n i)) ((i + n : Nat) : Int) = some ((List.range (l.length - n + 1)).map (fun j => weakOf (win l n j))) := by
  induction d with
  | zero =>
    intro k i acc hi hd hk hacc
    obtain ⟨k, rfl⟩ : ∃ m, k = m + 1 := ⟨k - 1, by omega⟩
    simp only [spec_Windows.l0]
    rw [if_neg (by omega), hacc, show l.length - n + 1 = i + 1 from by omega]
  | succ d ih =>
    intro k i acc hi hd hk hacc
    obtain ⟨k, rfl⟩ : ∃ m, k = m + 1 := ⟨k - 1, by omega⟩
    simp only [spec_Windows.l0]
    have ha : acc.length = i + 1 := by rw [hacc]; simp
    have c1 := hb l[i] (List.getElem_mem (by omega))
    have c2 := hb (l[i + n]'(by omega)) (List.getElem_mem (by omega))
    rw [if_pos (by omega), w64 (x := ((i + n : Nat) : Int) - (n : Int)) (by omega) (by omega), show ((i + n : Nat) : Int) - (n : Int) = (i : Int) from by omega, if_pos (by omega), if_pos (by omega), if_pos (by omega), rd_at (by omega : i < l.length), rd_at (by omega : i + n < l.length),
      w64 (x := l[i]) (by omega) (by omega), w64 (x := l[i + n]'(by omega)) (by omega) (by omega), spec_Roll_v _ _ _ _ (by omega), Option.bind_some, if_pos (by omega), win_roll hb hn hl (by omega), wnat (by omega), show i + n + 1 = i + 1 + n from by omega]
    refine ih k (i + 1) _ (by omega) (by omega) (by omega) ?_
    rw [hacc, List.range_succ (n := i + 1), List.map_append]; rfl
theorem spec_Windows_v {k : Nat} {l : List Int} (hb : Byt l) (hl : l.length ≤ 1000000000000) (n : Int) (hk : l.length + 20 < k) : spec_Windows.f k l n = some (windows l n) := by
  unfold spec_Windows.f windows
  obtain ⟨k, rfl⟩ : ∃ m, k = m + 1 := ⟨k - 1, by omega⟩
  simp only [Option.bind_some, spec_Windows.j0]
  by_cases h : 1 ≤ n ∧ n ≤ (l.length : Int)
  · obtain ⟨m, rfl⟩ := Int.eq_ofNat_of_zero_le (by omega : 0 ≤ n)
    rw [if_neg (by omega), decide_eq_false (by omega), if_neg (by decide), if_pos (by omega), if_pos h.2, Int.toNat_natCast, spec_WeakOf_v (byt_take hb _) (by simp; omega) (by simp; omega)]
    simp only [Option.bind_some, List.nil_append, List.length_nil]
    rw [if_pos (by omega), if_pos h]
    have hw : l.take m = win l m 0 := by simp [win]
    rw [hw]
    have := spec_Windows_l l hb m (by omega) (by omega) hl (l.length - (0 + m)) k 0 [weakOf (win l m 0)] (by omega) rfl (by omega) (by simp)
    rw [Nat.zero_add] at this
    exact this
  · rw [if_neg h]
    by_cases h1 : n < 1
    · rw [if_pos h1, if_pos trivial]
    · rw [if_neg h1, decide_eq_true (by omega), if_pos rfl]

theorem laws_toSum_v (a b : Int) : laws_toSum.f a b = some (a, b) := rfl

theorem spec_FindSum_l {l : List Int} (hb : Byt l) (hl : l.length ≤ 1000000000000) (w s : Int) (n : Nat) (hn : 1 ≤ n) (hn6 : n ≤ 6) (hnl : n ≤ l.length) (d : Nat) : ∀ (k i : Nat), i + d = l.length + 1 - n → d + 30 < k →
    spec_FindSum.l0 k l (n : Int) (windows l (n : Int)) (i : Int) w s = some (findFrom l w s n d i) := by
  have hwl : (windows l (n : Int)).length = l.length - n + 1 := by unfold windows; rw [if_pos (by omega)]; simp
  induction d with
  | zero =>
    intro k i hi hk
    obtain ⟨k, rfl⟩ : ∃ m, k = m + 1 := ⟨k - 1, by omega⟩
    simp only [spec_FindSum.l0]
    rw [if_neg (by omega)]; rfl
  | succ d ih =>
    intro k i hi hk
    obtain ⟨k, rfl⟩ : ∃ m, k = m + 1 := ⟨k - 1, by omega⟩
    simp only [spec_FindSum.l0]
    have hg : rd (windows l (n : Int)) (i : Int) = weakOf (win l n i) := by
      rw [rd_at (by omega)]
      unfold windows
      simp only [if_pos (show 1 ≤ (n : Int) ∧ (n : Int) ≤ (l.length : Int) from by omega), Int.toNat_natCast]
      simp
    have hwb : Byt (win l n i) := byt_take (byt_drop hb i) n
    have hwn : (win l n i).length = n := win_length (by omega)
    rw [if_pos (by omega), if_pos (by omega), hg, w64 (x := (i : Int) + (n : Int)) (by omega) (by omega), wnat (by omega), findFrom, ih k (i + 1) (by omega) (by omega)]
    by_cases hw : weakOf (win l n i) = w
    · rw [if_pos hw, if_pos (by omega), if_pos (by omega), show ((i : Int) + (n : Int)).toNat = i + n from by omega, Int.toNat_natCast, take_drop_win, spec_SumOf_v hwb (by omega), Option.bind_some]
      by_cases h : sumOf (win l n i) = (w, s)
      · rw [if_pos h, h]; simp
      · rw [if_neg h, if_neg]
        intro e
        simp only [Bool.and_eq_true, beq_iff_eq] at e
        exact h (Prod.ext e.1 e.2)
    · rw [if_neg hw, if_neg]
      intro e
      apply hw
      have := congrArg Prod.fst e
      unfold sumOf at this
      rw [if_pos (by omega)] at this
      exact this
theorem spec_FindSum_v {k : Nat} {l : List Int} (hb : Byt l) (hl : l.length ≤ 1000000000000) (w s n : Int) (hk : l.length + 50 < k) : spec_FindSum.f k l w s n = some (findSum l w s n) := by
  unfold spec_FindSum.f findSum
  rw [spec_l1In_v, Option.bind_some]
  by_cases h : 1 ≤ n ∧ n ≤ 6
  · rw [decide_eq_true h, if_pos rfl, if_pos h, spec_Windows_v hb hl n (by omega), Option.bind_some]
    obtain ⟨m, rfl⟩ := Int.eq_ofNat_of_zero_le (by omega : 0 ≤ n)
    rw [Int.toNat_natCast]
    by_cases hm : m ≤ l.length
    · exact spec_FindSum_l hb hl w s m (by omega) (by omega) hm _ k 0 (by omega) (by omega)
    · have e : windows l (m : Int) = [] := by unfold windows; rw [if_neg (by omega)]
      obtain ⟨k, rfl⟩ : ∃ m, k = m + 1 := ⟨k - 1, by omega⟩
      simp only [spec_FindSum.l0, e]
      rw [if_neg (by simp), show l.length + 1 - m = 0 from by omega]; rfl
  · rw [decide_eq_false h, if_neg (by decide), if_neg h]

theorem impl_FindSum_l {l : List Int} (hb : Byt l) (hl : l.length ≤ 1000000000000) (w s : Int) (n : Nat) (hn : 1 ≤ n) (hn6 : n ≤ 6) (d : Nat) : ∀ (k i : Nat), i ≤ l.length + 1 - n → i + d = l.length + 1 - n → d + 30 < k →
    impl_FindSum.l0 k l (n : Int) (i : Int) w s = some (findFrom l w s n d i) := by
  induction d with
  | zero =>
    intro k i hi0 hi hk
    obtain ⟨k, rfl⟩ : ∃ m, k = m + 1 := ⟨k - 1, by omega⟩
    simp only [impl_FindSum.l0]
    rw [w64 (x := (i : Int) + (n : Int)) (by omega) (by omega), if_neg (by omega)]; rfl
  | succ d ih =>
    intro k i hi0 hi hk
    obtain ⟨k, rfl⟩ : ∃ m, k = m + 1 := ⟨k - 1, by omega⟩
    simp only [impl_FindSum.l0]
    have hwb : Byt (win l n i) := byt_take (byt_drop hb i) n
    rw [w64 (x := (i : Int) + (n : Int)) (by omega) (by omega), if_pos (by omega), if_pos (by omega), if_pos (by omega), show ((i : Int) + (n : Int)).toNat = i + n from by omega, Int.toNat_natCast, take_drop_win, impl_SumOf_v hwb (by omega), Option.bind_some, wnat (by omega), findFrom, ih k (i + 1) (by omega) (by omega) (by omega)]
    by_cases h : sumOf (win l n i) = (w, s)
    · rw [if_pos h, h]; simp
    · rw [if_neg h, if_neg]
      intro e
      simp only [Bool.and_eq_true, beq_iff_eq] at e
      exact h (Prod.ext e.1 e.2)
theorem impl_FindSum_v {k : Nat} {l : List Int} (hb : Byt l) (hl : l.length ≤ 1000000000000) (w s n : Int) (hk : l.length + 50 < k) : impl_FindSum.f k l w s n = some (findSum l w s n) := by
  unfold impl_FindSum.f findSum
  rw [impl_within_v, Option.bind_some]
  by_cases h : 1 ≤ n ∧ n ≤ 6
  · rw [decide_eq_true h, if_pos rfl, if_pos h]
    obtain ⟨m, rfl⟩ := Int.eq_ofNat_of_zero_le (by omega : 0 ≤ n)
    rw [Int.toNat_natCast]
    exact impl_FindSum_l hb hl w s m (by omega) (by omega) _ k 0 (by omega) (by omega) (by omega)
  · rw [decide_eq_false h, if_neg (by decide), if_neg h]

theorem FnExactFindSum (l : List Int) (c0 c1 n : Int) (hm : l.length ≤ maxLen) (hw : ∀ x ∈ l, (Lit.int .u8 x).wf = true) (_ : (Lit.int .i64 n).wf = true) : ∃ k, laws_FnExactFindSum.f k l c0 c1 n = some true := by
  have hb : Byt l := fun x hx => wf_u8 (hw x hx)
  refine exists_ge 1048680 _ (fun k hk => ?_)
  unfold laws_FnExactFindSum.f
  by_cases hbig : (l.length : Int) > 1048576
  · rw [if_pos hbig]
  · rw [if_neg hbig]
    have h1 := fun (j : Nat) (hj : l.length + 50 < j) => spec_FindSum_v (k := j) hb (by omega) c0 c1 n hj
    have h2 := fun (j : Nat) (hj : l.length + 50 < j) => impl_FindSum_v (k := j) hb (by omega) c0 c1 n hj
    simp (disch := omega) only [laws_toByteS_v, laws_toSum_v, h1, h2, laws_eqByteS_v, Option.bind_some, decide_true, if_true, if_false, bne_self_eq_false, Bool.false_eq_true, Bool.not_true, Bool.not_false]

end Go.Proofs.Ytbhpnckebecffaa.Pure
