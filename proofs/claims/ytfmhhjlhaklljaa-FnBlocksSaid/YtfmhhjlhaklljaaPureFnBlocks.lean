/- For all draws: an image is the concatenation of its blocks; the sum of a block determines its bytes; no condition. -/
import Derived.Test.YtfmhhjlhaklljaaPFnBlocksx6
import Derived.Test.YtfmhhjlhaklljaaLib
set_option linter.unusedVariables false
set_option linter.unusedSimpArgs false
namespace Go.Proofs.Ytfmhhjlhaklljaa.Pure
open Go.RowKit Go.Proofs.Ytfmhhjlhaklljaa.PFnBlocks Go.Proofs.YtfmhhjlhaklljaaW.PrintWords Go.Proofs.YtfmhhjlhaklljaaW.PrintLast Go.Proofs.YtfmhhjlhaklljaaW.PrintMore Go.Proofs.Ytfmhhjlhaklljaa.Lib

instance : DecidableEq S81 := fun a b => decidable_of_iff (a.f0 = b.f0 ∧ a.f1 = b.f1) ⟨fun h => by cases a; cases b; simp_all, fun h => by rw [h]; exact ⟨rfl, rfl⟩⟩
def toS (p : Int × Int) : S81 := ⟨p.1, p.2⟩
def toSs (l : List (Int × Int)) : List S81 := l.map toS
theorem toS_inj {p q : Int × Int} (h : toS p = toS q) : p = q := by
  have h1 := congrArg S81.f0 h
  have h2 := congrArg S81.f1 h
  exact Prod.ext h1 h2
theorem toSs_inj {l m : List (Int × Int)} (h : toSs l = toSs m) : l = m := (List.map_inj_right (fun p q hq => toS_inj hq)).1 h
theorem toSs_length (l : List (Int × Int)) : (toSs l).length = l.length := by simp [toSs]
theorem toSs_onto (l : List S81) : ∃ m, l = toSs m ∧ m.length = l.length := ⟨l.map fun s => (s.f0, s.f1), by
  induction l with
  | nil => rfl
  | cons s l ih => simp only [List.map_cons, toSs] at ih ⊢; rw [← ih]; rfl, by simp⟩
theorem rd_S {l : List S81} {i : Nat} (h : i < l.length) : rd_T81 l (i : Int) = l[i] := by
  unfold rd_T81
  rw [Int.toNat_natCast, List.getD_eq_getElem?_getD, List.getElem?_eq_getElem h]; rfl
theorem drop_eq_iffS {a b : List S81} {i : Nat} (ha : i < a.length) (hb : i < b.length) : (a.drop i = b.drop i) ↔ (a[i] = b[i] ∧ a.drop (i + 1) = b.drop (i + 1)) := by
  rw [List.drop_eq_getElem_cons ha, List.drop_eq_getElem_cons hb, List.cons.injEq]
theorem S_eq_iff {a b : S81} : (a.f0, a.f1) = (b.f0, b.f1) ↔ a = b := by cases a; cases b; simp

theorem spec_l1In_v (a b c : Int) : spec_l1In.f a b c = some (decide (b ≤ a ∧ a ≤ c)) := by
  unfold spec_l1In.f
  by_cases h : b ≤ a
  · rw [if_pos h]; simp [h]
  · rw [if_neg h]; simp [h]

theorem impl_within_v (a b c : Int) : impl_within.f a b c = some (decide (b ≤ a ∧ a ≤ c)) := by
  unfold impl_within.f
  by_cases h : b ≤ a
  · rw [if_pos h]; simp [h]
  · rw [if_neg h]; simp [h]

theorem impl_Wrap_v {a m : Int} (h0 : 1 ≤ m) (h1 : m ≤ 1000000000000) : impl_Wrap.f a m = some (a % m) := by
  unfold impl_Wrap.f
  rw [impl_within_v, Option.bind_some, decide_eq_true (by omega), if_pos rfl, if_neg (by omega)]
  have h2 : a.tmod m = a - m * a.tdiv m := by have := Int.mul_tdiv_add_tmod a m; omega
  have h3 : -m < a.tmod m ∧ a.tmod m < m := ⟨by have := Int.lt_tmod_of_pos a (by omega : 0 < m); omega, Int.tmod_lt_of_pos a (by omega)⟩
  rw [w64 (by omega) (by omega), tmod_nn (by omega), Int.add_emod_right, h2, Int.sub_mul_emod_self_left]

theorem impl_weak_v (x y : Int) : impl_weak.f x y = some (x % 251 + 251 * (y % 251)) := by
  unfold impl_weak.f
  rw [impl_Wrap_v (by omega) (by omega), impl_Wrap_v (by omega) (by omega)]
  simp only [Option.bind_some]
  rw [w64 (x := 251 * (y % 251)) (by omega) (by omega), w64 (by omega) (by omega)]

theorem spec_WeakOf_l (l : List Int) (hb : Byt l) (hl : l.length ≤ 140737488351232) (d : Nat) : ∀ (k : Nat) (i : Nat), i ≤ l.length → l.length - i = d → d < k →
    spec_WeakOf.l0 k l (sx (l.take i) % 251) (sy (l.take i) % 251) (i : Int) = some (weakOf l) := by
  induction d with
  | zero =>
    intro k i hi hd hk
    obtain ⟨k, rfl⟩ : ∃ m, k = m + 1 := ⟨k - 1, by omega⟩
    simp only [spec_WeakOf.l0]
    rw [if_neg (by omega), List.take_of_length_le (by omega), w64 (x := 251 * (sy l % 251)) (by omega) (by omega), w64 (by omega) (by omega)]
    rfl
  | succ d ih =>
    intro k i hi hd hk
    obtain ⟨k, rfl⟩ : ∃ m, k = m + 1 := ⟨k - 1, by omega⟩
    simp only [spec_WeakOf.l0]
    have hc := hb l[i] (List.getElem_mem (by omega))
    rw [if_pos (by omega), if_pos (by omega), wnat (by omega), rd_at (by omega : i < l.length), w64 (x := l[i]) (by omega) (by omega), w64 (by omega) (by omega), tmod_nn (by omega), w64 (by omega) (by omega), tmod_nn (by omega)]
    have e : l.take (i + 1) = l.take i ++ [l[i]] := List.take_succ_eq_append_getElem (by omega)
    have := ih k (i + 1) (by omega) (by omega) (by omega)
    rw [e, sx_snoc, sy_snoc] at this
    rw [show (sx (l.take i) % 251 + l[i]) % 251 = (sx (l.take i) + l[i]) % 251 from by omega, show (sy (l.take i) % 251 + (sx (l.take i) + l[i]) % 251) % 251 = (sy (l.take i) + sx (l.take i) + l[i]) % 251 from by omega]
    exact this
theorem spec_WeakOf_v {k : Nat} {l : List Int} (hb : Byt l) (hl : l.length ≤ 140737488351232) (hk : l.length < k) : spec_WeakOf.f k l = some (weakOf l) := by
  unfold spec_WeakOf.f
  exact spec_WeakOf_l l hb hl l.length k 0 (by omega) (by omega) hk

theorem impl_WeakOf_l (l : List Int) (hb : Byt l) (hl : l.length ≤ 140737488351232) (d : Nat) : ∀ (k : Nat) (i : Nat), i ≤ l.length → l.length - i = d → d < k →
    impl_WeakOf.l0 k (sx (l.take i) % 251) (sy (l.take i) % 251) l (l.length : Int) (i : Int) = some (weakOf l) := by
  induction d with
  | zero =>
    intro k i hi hd hk
    obtain ⟨k, rfl⟩ : ∃ m, k = m + 1 := ⟨k - 1, by omega⟩
    simp only [impl_WeakOf.l0]
    rw [if_neg (by omega), impl_weak_v, List.take_of_length_le (by omega)]
    simp only [Option.bind_some, weakOf, Int.emod_emod]
  | succ d ih =>
    intro k i hi hd hk
    obtain ⟨k, rfl⟩ : ∃ m, k = m + 1 := ⟨k - 1, by omega⟩
    simp only [impl_WeakOf.l0]
    have hc := hb l[i] (List.getElem_mem (by omega))
    rw [if_pos (by omega), if_pos (by omega), if_pos (by omega), wnat (by omega), rd_at (by omega : i < l.length), w64 (x := l[i]) (by omega) (by omega), w64 (by omega) (by omega), tmod_nn (by omega), w64 (by omega) (by omega), tmod_nn (by omega)]
    have e : l.take (i + 1) = l.take i ++ [l[i]] := List.take_succ_eq_append_getElem (by omega)
    have := ih k (i + 1) (by omega) (by omega) (by omega)
    rw [e, sx_snoc, sy_snoc] at this
    rw [show (sx (l.take i) % 251 + l[i]) % 251 = (sx (l.take i) + l[i]) % 251 from by omega, show (sy (l.take i) % 251 + (sx (l.take i) + l[i]) % 251) % 251 = (sy (l.take i) + sx (l.take i) + l[i]) % 251 from by omega]
    exact this
theorem impl_WeakOf_v {k : Nat} {l : List Int} (hb : Byt l) (hl : l.length ≤ 140737488351232) (hk : l.length < k) : impl_WeakOf.f k l = some (weakOf l) := by
  unfold impl_WeakOf.f
  exact impl_WeakOf_l l hb hl l.length k 0 (by omega) (by omega) hk

theorem spec_SizeOk_v (s n : Int) : spec_SizeOk.f s n = some (sizeOk s n) := by
  unfold spec_SizeOk.f sizeOk
  rw [spec_l1In_v]
  simp only [Option.bind_some]
  by_cases h : 2 ≤ s ∧ s ≤ 6
  · rw [decide_eq_true h, if_pos rfl, spec_l1In_v, w64 (by omega) (by omega)]
    simp [h]
  · rw [decide_eq_false h, if_neg (by decide)]
    have : ¬ (2 ≤ s ∧ s ≤ 6 ∧ 0 ≤ n ∧ n ≤ s * 40) := fun g => h ⟨g.1, g.2.1⟩
    rw [decide_eq_false this]

theorem impl_SizeOk_v (s n : Int) : impl_SizeOk.f s n = some (sizeOk s n) := by
  unfold impl_SizeOk.f sizeOk
  rw [impl_within_v]
  simp only [Option.bind_some]
  by_cases h : 2 ≤ s ∧ s ≤ 6
  · rw [decide_eq_true h, if_pos rfl, impl_within_v, Int.mul_comm 40 s, w64 (by omega) (by omega)]
    simp [h]
  · rw [decide_eq_false h, if_neg (by decide)]
    have : ¬ (2 ≤ s ∧ s ≤ 6 ∧ 0 ≤ n ∧ n ≤ s * 40) := fun g => h ⟨g.1, g.2.1⟩
    rw [decide_eq_false this]

theorem spec_CeilDiv_v {a b : Int} (h0 : 0 ≤ a) (h1 : a ≤ 1000000000000) (h2 : 1 ≤ b) (h3 : b ≤ 1000000000000) : spec_CeilDiv.f a b = some ((a + b - 1) / b) := by
  unfold spec_CeilDiv.f
  rw [spec_l1In_v, Option.bind_some, decide_eq_true (by omega), if_pos rfl, spec_l1In_v, Option.bind_some, decide_eq_true (by omega), if_pos rfl, if_neg (by omega), w64 (x := a + b) (by omega) (by omega), w64 (x := a + b - 1) (by omega) (by omega), tdiv_nn (by omega)]
  have h4 : 0 ≤ (a + b - 1) / b := Int.ediv_nonneg (by omega) (by omega)
  have h5 : (a + b - 1) / b ≤ a + b - 1 := Int.ediv_le_self _ (by omega)
  rw [w64 (by omega) (by omega)]

theorem impl_CeilDiv_v {a b : Int} (h0 : 0 ≤ a) (h1 : a ≤ 1000000000000) (h2 : 1 ≤ b) (h3 : b ≤ 1000000000000) : impl_CeilDiv.f a b = some ((a + b - 1) / b) := by
  unfold impl_CeilDiv.f
  rw [impl_within_v, Option.bind_some, decide_eq_true (by omega), if_pos rfl, impl_within_v, Option.bind_some, decide_eq_true (by omega), if_pos rfl, if_neg (by omega), w64 (x := a + b) (by omega) (by omega), w64 (x := a + b - 1) (by omega) (by omega), tdiv_nn (by omega)]
  have h4 : 0 ≤ (a + b - 1) / b := Int.ediv_nonneg (by omega) (by omega)
  have h5 : (a + b - 1) / b ≤ a + b - 1 := Int.ediv_le_self _ (by omega)
  rw [w64 (by omega) (by omega)]

theorem spec_Blocks_v (s n : Int) : spec_Blocks.f s n = some (blocks s n) := by
  unfold spec_Blocks.f blocks
  rw [spec_SizeOk_v, Option.bind_some]
  by_cases h : sizeOk s n = true
  · obtain ⟨h0, h1, h2, h3⟩ := sizeOk_iff.1 h
    rw [if_pos h, if_pos h, spec_CeilDiv_v (by omega) (by omega) (by omega) (by omega)]
    rfl
  · rw [if_neg h, if_neg h]

theorem impl_Blocks_v (s n : Int) : impl_Blocks.f s n = some (blocks s n) := by
  unfold impl_Blocks.f blocks
  rw [impl_SizeOk_v, Option.bind_some]
  by_cases h : sizeOk s n = true
  · obtain ⟨h0, h1, h2, h3⟩ := sizeOk_iff.1 h
    rw [if_pos h, if_pos h, impl_CeilDiv_v (by omega) (by omega) (by omega) (by omega)]
    rfl
  · rw [if_neg h, if_neg h]

theorem spec_Least_v (a b : Int) : spec_Least.f a b = some (mn a b) := by
  unfold spec_Least.f mn
  by_cases h : b < a
  · rw [if_pos h, if_pos h]
  · rw [if_neg h, if_neg h]

theorem spec_SpanOf_v (s n i : Int) : spec_SpanOf.f s n i = some (spanOf s n i) := by
  unfold spec_SpanOf.f spanOf
  rw [spec_Blocks_v, Option.bind_some, spec_l1In_v, Option.bind_some]
  have hb := blocks_le s n
  rw [w64 (x := blocks s n - 1) (by omega) (by omega)]
  by_cases h : 0 ≤ i ∧ i ≤ blocks s n - 1
  · obtain ⟨h0, h1, h2, h3, h4, h5, h6⟩ := span_in h.1 h.2
    rw [decide_eq_true h, if_pos rfl, if_pos h, spec_Least_v, Option.bind_some, w64 (x := i * s) (by omega) (by omega), w64 (by omega) (by omega)]
  · rw [decide_eq_false h, if_neg (by decide), if_neg h]

theorem impl_SpanOf_v (s n i : Int) : impl_SpanOf.f s n i = some (spanOf s n i) := by
  unfold impl_SpanOf.f spanOf
  rw [impl_Blocks_v, Option.bind_some, impl_within_v, Option.bind_some]
  have hb := blocks_le s n
  rw [w64 (x := blocks s n - 1) (by omega) (by omega)]
  by_cases h : 0 ≤ i ∧ i ≤ blocks s n - 1
  · obtain ⟨h0, h1, h2, h3, h4, h5, h6⟩ := span_in h.1 h.2
    rw [decide_eq_true h, if_pos rfl, if_pos h, w64 (x := i * s) (by omega) (by omega), w64 (by omega) (by omega)]
  · rw [decide_eq_false h, if_neg (by decide), if_neg h]

theorem impl_cloned_v {l : List Int} (hl : l.length ≤ 140737488351232) : impl_cloned.f l = some l := by
  unfold impl_cloned.f
  rw [if_pos (by omega), if_pos (by omega)]
  simp only [List.replicate_zero, Option.bind_some, List.nil_append, List.length_nil]
  rw [if_pos (by omega)]

theorem impl_Slice_v {l : List Int} (hl : l.length ≤ 140737488351232) (a n : Int) : impl_Slice.f l a n = some (sliceB l a n) := by
  unfold impl_Slice.f sliceB
  rw [impl_within_v, Option.bind_some]
  by_cases h0 : 0 ≤ a ∧ a ≤ (l.length : Int)
  · rw [decide_eq_true h0, if_pos rfl, impl_within_v, Option.bind_some, w64 (x := (l.length : Int) - a) (by omega) (by omega)]
    by_cases h1 : 0 ≤ n ∧ n ≤ (l.length : Int) - a
    · rw [decide_eq_true h1, if_pos rfl, w64 (x := a + n) (by omega) (by omega), if_pos (by omega), if_pos (by omega), if_pos (by omega), impl_cloned_v (by simp; omega), if_pos ⟨by omega, by omega, by omega, by omega⟩]
      rfl
    · rw [decide_eq_false h1, if_neg (by decide), if_neg (by omega)]
  · rw [decide_eq_false h0, if_neg (by decide), if_neg (by omega)]

theorem spec_BytesOf_ok (n : Nat) : ∀ (k : Nat) (s : Int) (out : List Int), n ≤ 6 → 256 ^ n ≤ s → s < 2 * 256 ^ n → out.length ≤ 100 - n → n < k → spec_BytesOf.l0 k s out = some (dg n s ++ out, true) := by
  induction n with
  | zero =>
    intro k s out hn h0 h1 ho hk
    obtain ⟨k, rfl⟩ : ∃ m, k = m + 1 := ⟨k - 1, by omega⟩
    simp only [spec_BytesOf.l0]
    rw [if_neg (by omega)]; rfl
  | succ n ih =>
    intro k s out hn h0 h1 ho hk
    obtain ⟨k, rfl⟩ : ∃ m, k = m + 1 := ⟨k - 1, by omega⟩
    have hp := pow256_pos n
    have hq : (256 : Int) ^ n ≤ 256 ^ 5 := by
      rcases (by omega : n = 0 ∨ n = 1 ∨ n = 2 ∨ n = 3 ∨ n = 4 ∨ n = 5) with rfl | rfl | rfl | rfl | rfl | rfl <;> decide
    rw [Int.pow_succ] at h0 h1
    simp only [spec_BytesOf.l0]
    rw [if_pos (by omega), if_neg (by omega), Option.bind_some, if_pos (by simp; omega), and255 (by omega) (by omega), Int.emod_emod, ih k _ _ (by omega) (by omega) (by omega) (by simp; omega) (by omega)]
    simp [dg]
theorem spec_BytesOf_no (n : Nat) : ∀ (k : Nat) (s : Int) (out : List Int), n ≤ 6 → 2 * 256 ^ n ≤ s → s < 256 ^ (n + 1) → out.length ≤ 100 - n → n < k → spec_BytesOf.l0 k s out = some ([], false) := by
  induction n with
  | zero =>
    intro k s out hn h0 h1 ho hk
    obtain ⟨k, rfl⟩ : ∃ m, k = m + 1 := ⟨k - 1, by omega⟩
    simp only [spec_BytesOf.l0]
    rw [if_pos (by omega), if_pos (by omega)]
  | succ n ih =>
    intro k s out hn h0 h1 ho hk
    obtain ⟨k, rfl⟩ : ∃ m, k = m + 1 := ⟨k - 1, by omega⟩
    have hp := pow256_pos n
    have hq : (256 : Int) ^ n ≤ 256 ^ 5 := by
      rcases (by omega : n = 0 ∨ n = 1 ∨ n = 2 ∨ n = 3 ∨ n = 4 ∨ n = 5) with rfl | rfl | rfl | rfl | rfl | rfl <;> decide
    rw [Int.pow_succ] at h0 h1
    rw [Int.pow_succ] at h1
    simp only [spec_BytesOf.l0]
    rw [if_pos (by omega), if_neg (by omega), Option.bind_some, if_pos (by simp; omega), and255 (by omega) (by omega), Int.emod_emod, ih k _ _ (by omega) (by omega) (by rw [Int.pow_succ]; omega) (by simp; omega) (by omega)]
theorem spec_BytesOf_v {k : Nat} (s : Int) (hk : 20 < k) : spec_BytesOf.f k s = some (bytesOfS s) := by
  unfold spec_BytesOf.f bytesOfS
  simp only [spec_l1In_v, Option.bind_some]
  by_cases h0 : 1 ≤ s ∧ s ≤ 562949953421311
  · have ok := fun (n : Nat) (h : n ≤ 6) h1 h2 => spec_BytesOf_ok n k s [] h h1 h2 (by simp) (by omega)
    have no := fun (n : Nat) (h : n ≤ 6) h1 h2 => spec_BytesOf_no n k s [] h h1 h2 (by simp) (by omega)
    rw [decide_eq_true h0, if_pos rfl, if_neg (by omega)]
    by_cases c1 : s < 2
    · rw [if_pos c1, ok 0 (by omega) (by omega) (by omega)]; rfl
    rw [if_neg c1]
    by_cases c2 : s < 256
    · rw [if_pos c2, no 0 (by omega) (by omega) (by omega)]
    rw [if_neg c2]
    by_cases c3 : s < 512
    · rw [if_pos c3, ok 1 (by omega) (by omega) (by omega), List.append_nil]
    rw [if_neg c3]
    by_cases c4 : s < 65536
    · rw [if_pos c4, no 1 (by omega) (by omega) (by omega)]
    rw [if_neg c4]
    by_cases c5 : s < 131072
    · rw [if_pos c5, ok 2 (by omega) (by omega) (by omega), List.append_nil]
    rw [if_neg c5]
    by_cases c6 : s < 16777216
    · rw [if_pos c6, no 2 (by omega) (by omega) (by omega)]
    rw [if_neg c6]
    by_cases c7 : s < 33554432
    · rw [if_pos c7, ok 3 (by omega) (by omega) (by omega), List.append_nil]
    rw [if_neg c7]
    by_cases c8 : s < 4294967296
    · rw [if_pos c8, no 3 (by omega) (by omega) (by omega)]
    rw [if_neg c8]
    by_cases c9 : s < 8589934592
    · rw [if_pos c9, ok 4 (by omega) (by omega) (by omega), List.append_nil]
    rw [if_neg c9]
    by_cases c10 : s < 1099511627776
    · rw [if_pos c10, no 4 (by omega) (by omega) (by omega)]
    rw [if_neg c10]
    by_cases c11 : s < 2199023255552
    · rw [if_pos c11, ok 5 (by omega) (by omega) (by omega), List.append_nil]
    rw [if_neg c11]
    by_cases c12 : s < 281474976710656
    · rw [if_pos c12, no 5 (by omega) (by omega) (by omega)]
    rw [if_neg c12, if_pos (by omega), ok 6 (by omega) (by omega) (by omega), List.append_nil]
  · rw [decide_eq_false h0, if_neg (by decide)]
    by_cases h1 : s < 1
    · rw [if_pos h1]
    · simp only [if_neg h1]
      repeat rw [if_neg (by omega)]

theorem impl_BytesOf_in (s : Int) (n : Nat) (hn : n ≤ 6) (d : Nat) : ∀ (k : Nat) (out : List Int) (i : Nat), out.length = n → i ≤ n → n - i = d → d < k → (∀ j, j < i → out[j]? = (dg n s)[j]?) →
    impl_BytesOf.l1 k s (n : Int) out (n : Int) (i : Int) = some (dg n s, true) := by
  induction d with
  | zero =>
    intro k out i ho hi hd hk hj
    obtain ⟨k, rfl⟩ : ∃ m, k = m + 1 := ⟨k - 1, by omega⟩
    simp only [impl_BytesOf.l1]
    rw [if_neg (by omega), ext_all ho (dg_length n s) (fun j h => hj j (by omega))]
  | succ d ih =>
    intro k out i ho hi hd hk hj
    obtain ⟨k, rfl⟩ : ∃ m, k = m + 1 := ⟨k - 1, by omega⟩
    simp only [impl_BytesOf.l1]
    rw [if_pos (by omega), w64 (x := (n : Int) - 1) (by omega) (by omega), w64 (x := (n : Int) - 1 - i) (by omega) (by omega), w64 (x := 8 * ((n : Int) - 1 - i)) (by omega) (by omega), if_pos (by omega), if_pos (by omega), if_pos (by omega), wnat (by omega),
      show (n : Int) - 1 - i = ((n - 1 - i : Nat) : Int) from by omega, shr8 s (by omega)]
    exact ih k _ (i + 1) (by simp [ho]) (by omega) (by omega) (by omega) (set_step (by omega) hj (dg_get n s i (by omega)))
/-- The number of bytes is found, or none is. -/
theorem impl_BytesOf_go (s : Int) (t : Nat) (ht : t ≤ 6) (hlast : t = 6 ∨ s / 256 ^ t ≤ 1) (d : Nat) : ∀ (k n : Nat), n ≤ t → t - n = d → d < k → (∀ m, n ≤ m → m < t → s / 256 ^ m > 1) → impl_BytesOf.l0 k s (n : Int) = impl_BytesOf.j1 (k - d - 1) s (t : Int) := by
  induction d with
  | zero =>
    intro k n hn hd hk hm
    obtain ⟨k, rfl⟩ : ∃ m, k = m + 1 := ⟨k - 1, by omega⟩
    obtain rfl : n = t := by omega
    simp only [impl_BytesOf.l0]
    by_cases h6 : n = 6
    · rw [if_neg (by omega)]; rfl
    · rw [if_pos (by omega), w64 (x := 8 * (n : Int)) (by omega) (by omega), if_pos (by omega), shr8 s (by omega), if_neg (by omega)]; rfl
  | succ d ih =>
    intro k n hn hd hk hm
    obtain ⟨k, rfl⟩ : ∃ m, k = m + 1 := ⟨k - 1, by omega⟩
    simp only [impl_BytesOf.l0]
    rw [if_pos (by omega), w64 (x := 8 * (n : Int)) (by omega) (by omega), if_pos (by omega), shr8 s (by omega), if_pos (hm n (by omega) (by omega)), wnat (by omega), ih k (n + 1) (by omega) (by omega) (by omega) (fun m h1 h2 => hm m (by omega) h2)]
    congr 1; omega
theorem impl_BytesOf_yes (s : Int) (t : Nat) (ht : t ≤ 6) (hs : s / 256 ^ t = 1) (hs1 : 1 ≤ s) {k : Nat} (hk : 20 < k) (hm : ∀ m, m < t → s / 256 ^ m > 1) : impl_BytesOf.f k s = some (dg t s, true) := by
  unfold impl_BytesOf.f
  have h := impl_BytesOf_go s t ht (Or.inr (by omega)) t k 0 (by omega) (by omega) (by omega) (fun m _ h => hm m h)
  rw [show ((0 : Nat) : Int) = 0 from rfl] at h
  rw [h]
  obtain ⟨k', hk'⟩ : ∃ m, k - t - 1 = m + 2 := ⟨k - t - 3, by omega⟩
  rw [hk']
  simp only [impl_BytesOf.j1]
  rw [if_neg (by omega), w64 (x := 8 * (t : Int)) (by omega) (by omega), if_pos (by omega), shr8 s (by omega), hs]
  simp only [impl_BytesOf.j2, bne_self_eq_false]
  rw [if_neg (by decide), if_pos (by omega), if_pos (by omega), Option.bind_some, Int.toNat_natCast, List.length_replicate]
  exact impl_BytesOf_in s t ht t k' _ 0 (by simp) (by omega) (by omega) (by omega) (fun j h => by omega)
theorem impl_BytesOf_not (s : Int) (t : Nat) (ht : t ≤ 6) (hs : s / 256 ^ t ≠ 1) (hlast : t = 6 ∨ s / 256 ^ t ≤ 1) {k : Nat} (hk : 20 < k) (hm : ∀ m, m < t → s / 256 ^ m > 1) : impl_BytesOf.f k s = some ([], false) := by
  unfold impl_BytesOf.f
  have h := impl_BytesOf_go s t ht hlast t k 0 (by omega) (by omega) (by omega) (fun m _ h => hm m h)
  rw [show ((0 : Nat) : Int) = 0 from rfl] at h
  rw [h]
  obtain ⟨k', hk'⟩ : ∃ m, k - t - 1 = m + 2 := ⟨k - t - 3, by omega⟩
  rw [hk']
  simp only [impl_BytesOf.j1]
  by_cases h1 : s < 1
  · rw [if_pos h1]; simp only [impl_BytesOf.j2, if_true]
  · rw [if_neg h1, w64 (x := 8 * (t : Int)) (by omega) (by omega), if_pos (by omega), shr8 s (by omega)]
    have hb : (s / 256 ^ t != 1) = true := bne_iff_ne.2 hs
    rw [hb]; simp only [impl_BytesOf.j2, if_true]
theorem below7 {P : Nat → Prop} {t : Nat} (ht : t ≤ 6) (h : (0 < t → P 0) ∧ (1 < t → P 1) ∧ (2 < t → P 2) ∧ (3 < t → P 3) ∧ (4 < t → P 4) ∧ (5 < t → P 5)) : ∀ m, m < t → P m := by
  intro m hm
  rcases (by omega : m = 0 ∨ m = 1 ∨ m = 2 ∨ m = 3 ∨ m = 4 ∨ m = 5) with rfl | rfl | rfl | rfl | rfl | rfl
  · exact h.1 hm
  · exact h.2.1 hm
  · exact h.2.2.1 hm
  · exact h.2.2.2.1 hm
  · exact h.2.2.2.2.1 hm
  · exact h.2.2.2.2.2 hm
theorem impl_BytesOf_v {k : Nat} (s : Int) (hk : 20 < k) : impl_BytesOf.f k s = some (bytesOfS s) := by
  have yes := fun (t : Nat) (h : t ≤ 6) h1 h2 h3 => impl_BytesOf_yes s t h h1 h2 hk h3
  have nope := fun (t : Nat) (h : t ≤ 6) h1 h2 h3 => impl_BytesOf_not s t h h1 h2 hk h3
  unfold bytesOfS
  by_cases c0 : s < 1
  · rw [if_pos c0, nope 0 (by omega) (by omega) (Or.inr (by omega)) (fun m h => by omega)]
  rw [if_neg c0]
  by_cases c1 : s < 2
  · rw [if_pos c1, yes 0 (by omega) (by omega) (by omega) (fun m h => by omega)]; rfl
  rw [if_neg c1]
  by_cases c2 : s < 256
  · rw [if_pos c2, nope 1 (by omega) (by omega) (Or.inr (by omega)) (below7 (by omega) ⟨by omega, by omega, by omega, by omega, by omega, by omega⟩)]
  rw [if_neg c2]
  by_cases c3 : s < 512
  · rw [if_pos c3, yes 1 (by omega) (by omega) (by omega) (below7 (by omega) ⟨by omega, by omega, by omega, by omega, by omega, by omega⟩)]
  rw [if_neg c3]
  by_cases c4 : s < 65536
  · rw [if_pos c4, nope 2 (by omega) (by omega) (Or.inr (by omega)) (below7 (by omega) ⟨by omega, by omega, by omega, by omega, by omega, by omega⟩)]
  rw [if_neg c4]
  by_cases c5 : s < 131072
  · rw [if_pos c5, yes 2 (by omega) (by omega) (by omega) (below7 (by omega) ⟨by omega, by omega, by omega, by omega, by omega, by omega⟩)]
  rw [if_neg c5]
  by_cases c6 : s < 16777216
  · rw [if_pos c6, nope 3 (by omega) (by omega) (Or.inr (by omega)) (below7 (by omega) ⟨by omega, by omega, by omega, by omega, by omega, by omega⟩)]
  rw [if_neg c6]
  by_cases c7 : s < 33554432
  · rw [if_pos c7, yes 3 (by omega) (by omega) (by omega) (below7 (by omega) ⟨by omega, by omega, by omega, by omega, by omega, by omega⟩)]
  rw [if_neg c7]
  by_cases c8 : s < 4294967296
  · rw [if_pos c8, nope 4 (by omega) (by omega) (Or.inr (by omega)) (below7 (by omega) ⟨by omega, by omega, by omega, by omega, by omega, by omega⟩)]
  rw [if_neg c8]
  by_cases c9 : s < 8589934592
  · rw [if_pos c9, yes 4 (by omega) (by omega) (by omega) (below7 (by omega) ⟨by omega, by omega, by omega, by omega, by omega, by omega⟩)]
  rw [if_neg c9]
  by_cases c10 : s < 1099511627776
  · rw [if_pos c10, nope 5 (by omega) (by omega) (Or.inr (by omega)) (below7 (by omega) ⟨by omega, by omega, by omega, by omega, by omega, by omega⟩)]
  rw [if_neg c10]
  by_cases c11 : s < 2199023255552
  · rw [if_pos c11, yes 5 (by omega) (by omega) (by omega) (below7 (by omega) ⟨by omega, by omega, by omega, by omega, by omega, by omega⟩)]
  rw [if_neg c11]
  by_cases c12 : s < 281474976710656
  · rw [if_pos c12, nope 6 (by omega) (by omega) (Or.inl rfl) (below7 (by omega) ⟨by omega, by omega, by omega, by omega, by omega, by omega⟩)]
  rw [if_neg c12]
  by_cases c13 : s < 562949953421312
  · rw [if_pos c13, yes 6 (by omega) (by omega) (by omega) (below7 (by omega) ⟨by omega, by omega, by omega, by omega, by omega, by omega⟩)]
  · rw [if_neg c13, nope 6 (by omega) (by omega) (Or.inl rfl) (below7 (by omega) ⟨by omega, by omega, by omega, by omega, by omega, by omega⟩)]

theorem spec_SumOf_l (l : List Int) (hb : Byt l) (hl : l.length ≤ 6) (d : Nat) : ∀ (k : Nat) (i : Nat), i ≤ l.length → l.length - i = d → d + 10 < k → spec_SumOf.l0 k l (sumS (l.take i)) (i : Int) = some (weakOf l, sumS l) := by
  induction d with
  | zero =>
    intro k i hi hd hk
    obtain ⟨k, rfl⟩ : ∃ m, k = m + 1 := ⟨k - 1, by omega⟩
    simp only [spec_SumOf.l0]
    rw [if_neg (by omega), spec_WeakOf_v hb (by omega) (by omega), List.take_of_length_le (by omega)]; rfl
  | succ d ih =>
    intro k i hi hd hk
    obtain ⟨k, rfl⟩ : ∃ m, k = m + 1 := ⟨k - 1, by omega⟩
    simp only [spec_SumOf.l0]
    have hc := hb l[i] (List.getElem_mem (by omega))
    have h1 := sumS_small (l := l.take i) (byt_take hb i) (by simp; omega)
    rw [if_pos (by omega), if_pos (by omega), wnat (by omega), rd_at (by omega : i < l.length), w64 (x := 256 * sumS (l.take i)) (by omega) (by omega), w64 (x := l[i]) (by omega) (by omega), w64 (by omega) (by omega)]
    have e : l.take (i + 1) = l.take i ++ [l[i]] := List.take_succ_eq_append_getElem (by omega)
    have := ih k (i + 1) (by omega) (by omega) (by omega)
    rw [e, sumS_snoc, Int.mul_comm] at this
    exact this
theorem spec_SumOf_v {k : Nat} {l : List Int} (hb : Byt l) (hk : 20 < k) : spec_SumOf.f k l = some (sumOf l) := by
  unfold spec_SumOf.f sumOf
  by_cases h : l.length ≤ 6
  · rw [if_neg (by omega), if_pos h]
    exact spec_SumOf_l l hb h l.length k 0 (by omega) (by omega) (by omega)
  · rw [if_pos (by omega), if_neg h]

theorem impl_SumOf_l (l : List Int) (hb : Byt l) (hl : l.length ≤ 6) (d : Nat) : ∀ (k : Nat) (i : Nat), i ≤ l.length → l.length - i = d → d + 10 < k → impl_SumOf.l0 k l (sumS (l.take i)) l (l.length : Int) (i : Int) = some (weakOf l, sumS l) := by
  induction d with
  | zero =>
    intro k i hi hd hk
    obtain ⟨k, rfl⟩ : ∃ m, k = m + 1 := ⟨k - 1, by omega⟩
    simp only [impl_SumOf.l0]
    rw [if_neg (by omega), impl_WeakOf_v hb (by omega) (by omega), List.take_of_length_le (by omega)]; rfl
  | succ d ih =>
    intro k i hi hd hk
    obtain ⟨k, rfl⟩ : ∃ m, k = m + 1 := ⟨k - 1, by omega⟩
    simp only [impl_SumOf.l0]
    have hc := hb l[i] (List.getElem_mem (by omega))
    have h1 := sumS_small (l := l.take i) (byt_take hb i) (by simp; omega)
    rw [if_pos (by omega), if_pos (by omega), if_pos (by omega), wnat (by omega), rd_at (by omega : i < l.length), w64 (x := sumS (l.take i) * 256) (by omega) (by omega), w64 (x := l[i]) (by omega) (by omega), or_256 (by omega) (by omega) hc.1 hc.2]
    have e : l.take (i + 1) = l.take i ++ [l[i]] := List.take_succ_eq_append_getElem (by omega)
    have := ih k (i + 1) (by omega) (by omega) (by omega)
    rw [e, sumS_snoc] at this
    exact this
theorem impl_SumOf_v {k : Nat} {l : List Int} (hb : Byt l) (hk : 20 < k) : impl_SumOf.f k l = some (sumOf l) := by
  unfold impl_SumOf.f sumOf
  by_cases h : l.length ≤ 6
  · rw [if_neg (by omega), if_pos h]
    exact impl_SumOf_l l hb h l.length k 0 (by omega) (by omega) (by omega)
  · rw [if_pos (by omega), if_neg h]

theorem spec_BlockAt_v {l : List Int} (hl : l.length ≤ 140737488351232) (s i : Int) : spec_BlockAt.f l s i = some (blockAt l s i) := by
  unfold spec_BlockAt.f blockAt
  rw [spec_SpanOf_v, Option.bind_some]
  have hg := spanOf_range s (l.length : Int) i
  generalize spanOf s (l.length : Int) i = r at hg ⊢
  by_cases h : r.2 = 0
  · rw [if_pos h, if_pos h]
  · obtain ⟨g0, g1, g2⟩ := hg h
    rw [if_neg h, if_neg h, w64 (x := r.1 + r.2) (by omega) (by omega)]
    simp only [Option.bind_some, List.length_nil, List.nil_append]
    rw [if_pos (by omega), if_pos (by omega), if_pos (by omega), if_pos (by simp; omega)]

theorem impl_BlockAt_v {l : List Int} (hl : l.length ≤ 140737488351232) (s i : Int) : impl_BlockAt.f l s i = some (blockAt l s i) := by
  unfold impl_BlockAt.f blockAt
  rw [impl_SpanOf_v, Option.bind_some]
  have hg := spanOf_range s (l.length : Int) i
  generalize spanOf s (l.length : Int) i = r at hg ⊢
  by_cases h : r.2 = 0
  · rw [if_pos h, if_pos h]
  · obtain ⟨g0, g1, g2⟩ := hg h
    rw [if_neg h, if_neg h, impl_Slice_v hl, Option.bind_some]
    rw [sliceB_yes (by omega) (by omega) (by omega) (by omega)]

theorem laws_big_v (l : List Int) : laws_big.f l = some (decide ((l.length : Int) > 1048576)) := rfl

theorem laws_same_l (a b : List Int) (hab : a.length = b.length) (hl : a.length ≤ 140737488355328) (d : Nat) : ∀ (k : Nat) (i : Nat), i ≤ a.length → a.length - i = d → d < k →
    laws_same.l0 k a b (i : Int) = some (decide (a.drop i = b.drop i)) := by
  induction d with
  | zero =>
    intro k i hi hd hk
    obtain ⟨k, rfl⟩ : ∃ m, k = m + 1 := ⟨k - 1, by omega⟩
    simp only [laws_same.l0]
    rw [if_neg (by omega), List.drop_eq_nil_of_le (by omega), List.drop_eq_nil_of_le (by omega)]
    rfl
  | succ d ih =>
    intro k i hi hd hk
    obtain ⟨k, rfl⟩ : ∃ m, k = m + 1 := ⟨k - 1, by omega⟩
    simp only [laws_same.l0]
    rw [if_pos (by omega), if_pos (by omega), if_pos (by omega), wnat (by omega), rd_at (by omega : i < a.length), rd_at (by omega : i < b.length), ih k (i + 1) (by omega) (by omega) (by omega)]
    have e := drop_eq_iff (a := a) (b := b) (i := i) (by omega) (by omega)
    by_cases h : a[i]'(by omega) = b[i]'(by omega)
    · rw [if_pos h]; simp only [e, h, true_and]
    · rw [if_neg h]; simp only [e, h, false_and, decide_false]
theorem laws_same_v {k : Nat} {a b : List Int} (hl : a.length ≤ 140737488355328) (hk : a.length < k) : laws_same.f k a b = some (decide (a = b)) := by
  unfold laws_same.f
  by_cases h : a.length = b.length
  · rw [if_pos (by omega)]
    exact laws_same_l a b h hl a.length k 0 (by omega) (by omega) hk
  · rw [if_neg (by omega)]
    have : a ≠ b := fun e => h (by rw [e])
    simp [this]

theorem spec_l1New_l (b : List Int) (hb : b.length ≤ 1048576) (d : Nat) : ∀ (k i : Nat) (h : Int), i ≤ b.length → b.length - i = d → d < k → ∃ h', spec_l1New.l0 k b h (i : Int) = some (b, 0, h') := by
  induction d with
  | zero =>
    intro k i h hi hd hk
    obtain ⟨k, rfl⟩ : ∃ m, k = m + 1 := ⟨k - 1, by omega⟩
    simp only [spec_l1New.l0]
    rw [if_neg (by omega)]
    exact ⟨_, rfl⟩
  | succ d ih =>
    intro k i h hi hd hk
    obtain ⟨k, rfl⟩ : ∃ m, k = m + 1 := ⟨k - 1, by omega⟩
    simp only [spec_l1New.l0]
    rw [if_pos (by omega)]
    by_cases h4 : (i : Int) < 4000
    · rw [if_pos h4, if_pos (by omega), wnat (by omega)]
      exact ih k (i + 1) _ (by omega) (by omega) (by omega)
    · rw [if_neg h4]; exact ⟨_, rfl⟩
theorem spec_l1New_x {k : Nat} {b : List Int} (hb : b.length ≤ 1048576) (hk : b.length < k) : ∃ h', spec_l1New.f k b = some (b, 0, h') := by
  unfold spec_l1New.f
  exact spec_l1New_l b hb b.length k 0 _ (by omega) (by omega) hk
theorem cur_start {b : List Int} (hb : b.length ≤ 1048576) : Cur b 0 := ⟨hb, by omega, by omega⟩

theorem spec_l1Byte_x {b : List Int} {i : Int} (hc : Cur b i) (h : Int) : ∃ r i' h', spec_l1Byte.f b i h = some (r, i', h') ∧ 0 ≤ r ∧ r ≤ 255 ∧ Cur b i' := by
  obtain ⟨h0, h1, h2⟩ := hc
  unfold spec_l1Byte.f
  by_cases hi : i < (b.length : Int)
  · rw [if_pos hi, if_pos h1, w64 (x := i + 1) (by omega) (by omega)]
    exact ⟨_, _, _, rfl, (and_le _).1, (and_le _).2, h0, by omega, by omega⟩
  · rw [if_neg hi]
    exact ⟨_, _, _, rfl, (and_le _).1, (and_le _).2, h0, h1, h2⟩

theorem spec_l1Below_x {b : List Int} {i : Int} (hc : Cur b i) (h : Int) (n : Int) : ∃ r i' h', spec_l1Below.f b i h n = some (r, i', h') ∧ 0 ≤ r ∧ (n ≤ 0 → r = 0) ∧ (0 < n → r < n) ∧ Cur b i' := by
  unfold spec_l1Below.f
  by_cases hn : n ≤ 0
  · rw [if_pos hn]
    exact ⟨_, _, _, rfl, by omega, fun _ => rfl, fun h => by omega, hc⟩
  · rw [if_neg hn]
    by_cases h256 : n ≤ 256
    · rw [if_pos h256]
      obtain ⟨r, i', h', e, r0, r1, hc'⟩ := spec_l1Byte_x hc h
      rw [e, Option.bind_some, if_neg (by omega)]
      refine ⟨_, _, _, rfl, ?_, fun h => by omega, fun _ => ?_, hc'⟩ <;> dsimp only <;> rw [tmod_nn r0]
      · exact Int.emod_nonneg _ (by omega)
      · exact Int.emod_lt_of_pos _ (by omega)
    · rw [if_neg h256]
      obtain ⟨r, i', h', e, r0, r1, hc'⟩ := spec_l1Byte_x hc h
      obtain ⟨s, i'', h'', e', s0, s1, hc''⟩ := spec_l1Byte_x hc' h'
      obtain ⟨t, i3, h3, e3, t0, t1, hc3⟩ := spec_l1Byte_x hc'' h''
      rw [e, Option.bind_some, e', Option.bind_some, e3, Option.bind_some, if_neg (by omega)]
      refine ⟨_, _, _, rfl, ?_, fun h => by omega, fun _ => ?_, hc3⟩ <;> dsimp only <;> rw [w64 (x := r * 65536) (by omega) (by omega), w64 (x := s * 256) (by omega) (by omega), w64 (x := r * 65536 + s * 256) (by omega) (by omega), w64 (x := r * 65536 + s * 256 + t) (by omega) (by omega), tmod_nn (by omega)]
      · exact Int.emod_nonneg _ (by omega)
      · exact Int.emod_lt_of_pos _ (by omega)

theorem spec_l1Int_x {b : List Int} {i : Int} (hc : Cur b i) (h : Int) {l : List Int} (hl : 0 < l.length) : ∃ r i' h', spec_l1Int.f b i h l = some (r, i', h') ∧ r ∈ l ∧ Cur b i' := by
  unfold spec_l1Int.f
  obtain ⟨r, i', h', e, r0, r1, r2, hc'⟩ := spec_l1Below_x hc h (l.length : Int)
  have := r2 (by omega)
  rw [e, Option.bind_some, if_pos r0, if_pos this]
  refine ⟨_, _, _, rfl, ?_, hc'⟩
  obtain ⟨m, rfl⟩ := Int.eq_ofNat_of_zero_le r0
  dsimp only
  rw [rd_at (by omega : m < l.length)]
  exact List.getElem_mem _

theorem spec_l1Once_x {b : List Int} {i : Int} (hc : Cur b i) (h : Int) (n : Int) : ∃ (r : Bool) (i' h' : Int), spec_l1Once.f b i h n = some (r, i', h') ∧ Cur b i' := by
  unfold spec_l1Once.f
  obtain ⟨r, i', h', e, r0, r1, r2, hc'⟩ := spec_l1Below_x hc h n
  rw [e, Option.bind_some]
  exact ⟨_, _, _, rfl, hc'⟩

theorem spec_l3Bytes_l {b : List Int} (d : Nat) : ∀ (k : Nat) (acc : List Int) (i h : Int), Cur b i → Byt acc → acc.length + d ≤ 1000000 → d < k →
    ∃ r i' h', spec_l3Bytes.l0 k acc (d : Int) b i h = some (r, i', h') ∧ Byt r ∧ r.length = acc.length + d ∧ Cur b i' := by
  induction d with
  | zero =>
    intro k acc i h hc hb ha hk
    obtain ⟨k, rfl⟩ : ∃ m, k = m + 1 := ⟨k - 1, by omega⟩
    simp only [spec_l3Bytes.l0]
    rw [if_neg (by omega)]
    exact ⟨_, _, _, rfl, hb, rfl, hc⟩
  | succ d ih =>
    intro k acc i h hc hb ha hk
    obtain ⟨k, rfl⟩ : ∃ m, k = m + 1 := ⟨k - 1, by omega⟩
    simp only [spec_l3Bytes.l0]
    obtain ⟨r, i', h', e, hr, hc'⟩ := spec_l1Int_x hc h (l := [97, 98, 99, 0, 255]) (by decide)
    have hr2 : 0 ≤ r ∧ r ≤ 255 := by
      simp only [List.mem_cons, List.not_mem_nil, or_false] at hr
      omega
    rw [if_pos (by omega), e, Option.bind_some, if_pos (by omega), mod256 hr2.1 hr2.2, w64 (by omega) (by omega), show ((d + 1 : Nat) : Int) - 1 = (d : Int) from by omega]
    obtain ⟨r2, i2, h2, e2, b2, l2, c2⟩ := ih k (acc ++ [r]) i' h' hc' (byt_snoc.2 ⟨hb, hr2⟩) (by simp; omega) (by omega)
    exact ⟨r2, i2, h2, e2, b2, by rw [l2]; simp; omega, c2⟩
theorem spec_l3Bytes_x {k : Nat} {b : List Int} {i : Int} (hc : Cur b i) (h : Int) {n : Int} (h0 : 0 ≤ n) (h1 : n ≤ 1000) (hk : 2000 < k) : ∃ r i' h', spec_l3Bytes.f k b i h n = some (r, i', h') ∧ Byt r ∧ (r.length : Int) ≤ n ∧ Cur b i' := by
  unfold spec_l3Bytes.f
  rw [w64 (by omega) (by omega)]
  obtain ⟨r, i', h', e, r0, r1, r2, hc'⟩ := spec_l1Below_x hc h (n + 1)
  have := r2 (by omega)
  rw [e, Option.bind_some]
  obtain ⟨m, rfl⟩ := Int.eq_ofNat_of_zero_le r0
  obtain ⟨r2, i2, h2, e2, b2, l2, c2⟩ := spec_l3Bytes_l m k [] i' h' hc' byt_nil (by simp; omega) (by omega)
  exact ⟨r2, i2, h2, e2, b2, by rw [l2]; simp; omega, c2⟩

theorem spec_DrawSumOf_x {k : Nat} {b : List Int} (hb : b.length ≤ 1048576) (hk : 1049000 < k) : ∃ r, spec_DrawSumOf.f k b = some r ∧ Byt r ∧ r.length ≤ 8 := by
  unfold spec_DrawSumOf.f
  obtain ⟨h, e⟩ := spec_l1New_x (k := k) hb (by omega)
  obtain ⟨r, i', h', e', rb, rl, hc⟩ := spec_l3Bytes_x (k := k) (cur_start hb) h (by omega : (0 : Int) ≤ 8) (by omega) (by omega)
  rw [e, Option.bind_some, e', Option.bind_some]
  exact ⟨r, rfl, rb, by omega⟩

theorem spec_SumsOf_l (l : List Int) (hb : Byt l) (hl : l.length ≤ 140737488351232) (s : Int) (n : Nat) (hn : blocks s (l.length : Int) = (n : Int)) (d : Nat) : ∀ (k i : Nat) (acc : List S81), i + d = n → d + 30 < k →
    acc = toSs ((List.range i).map fun (j : Nat) => sumOf (blockAt l s (j : Int)).1) → spec_SumsOf.l0 k l s acc (i : Int) = some (toSs ((List.range n).map fun (j : Nat) => sumOf (blockAt l s (j : Int)).1)) := by
  have hbl := blocks_le s (l.length : Int)
  induction d with
  | zero =>
    intro k i acc hi hk hacc
    obtain ⟨k, rfl⟩ : ∃ m, k = m + 1 := ⟨k - 1, by omega⟩
    simp only [spec_SumsOf.l0]
    rw [spec_Blocks_v, Option.bind_some, hn, if_neg (by omega), hacc, show i = n from by omega]
  | succ d ih =>
    intro k i acc hi hk hacc
    obtain ⟨k, rfl⟩ : ∃ m, k = m + 1 := ⟨k - 1, by omega⟩
    simp only [spec_SumsOf.l0]
    have ha : acc.length = i := by rw [hacc, toSs_length]; simp
    rw [spec_Blocks_v, Option.bind_some, hn, if_pos (by omega), spec_BlockAt_v hl, Option.bind_some, spec_SumOf_v (blockAt_byt hb s _) (by omega), Option.bind_some, if_pos (by omega), wnat (by omega)]
    refine ih k (i + 1) _ (by omega) (by omega) ?_
    rw [hacc, List.range_succ, List.map_append]
    simp [toSs, toS]
theorem spec_SumsOf_v {k : Nat} {l : List Int} (hb : Byt l) (hl : l.length ≤ 140737488351232) (s : Int) (hk : 100 < k) : spec_SumsOf.f k l s = some (toSs (sumsOf l s)) := by
  unfold spec_SumsOf.f sumsOf
  have hbl := blocks_le s (l.length : Int)
  obtain ⟨n, hn⟩ := Int.eq_ofNat_of_zero_le hbl.1
  have h := spec_SumsOf_l l hb hl s n hn n k 0 [] (by omega) (by omega) (by simp [toSs])
  rw [hn, Int.toNat_natCast]
  exact h

theorem impl_SumsOf_l (l : List Int) (hb : Byt l) (hl : l.length ≤ 140737488351232) (s : Int) (n : Nat) (hn : blocks s (l.length : Int) = (n : Int)) (d : Nat) : ∀ (k i : Nat) (acc : List S81), i + d = n → d + 30 < k →
    acc = toSs ((List.range i).map fun (j : Nat) => sumOf (blockAt l s (j : Int)).1) → impl_SumsOf.l0 k l s acc (n : Int) (i : Int) = some (toSs ((List.range n).map fun (j : Nat) => sumOf (blockAt l s (j : Int)).1)) := by
  have hbl := blocks_le s (l.length : Int)
  induction d with
  | zero =>
    intro k i acc hi hk hacc
    obtain ⟨k, rfl⟩ : ∃ m, k = m + 1 := ⟨k - 1, by omega⟩
    simp only [impl_SumsOf.l0]
    rw [if_neg (by omega), hacc, show i = n from by omega]
  | succ d ih =>
    intro k i acc hi hk hacc
    obtain ⟨k, rfl⟩ : ∃ m, k = m + 1 := ⟨k - 1, by omega⟩
    simp only [impl_SumsOf.l0]
    have ha : acc.length = i := by rw [hacc, toSs_length]; simp
    rw [if_pos (by omega), impl_BlockAt_v hl, Option.bind_some, impl_SumOf_v (blockAt_byt hb s _) (by omega), Option.bind_some, if_pos (by omega), wnat (by omega)]
    refine ih k (i + 1) _ (by omega) (by omega) ?_
    rw [hacc, List.range_succ, List.map_append]
    simp [toSs, toS]
theorem impl_SumsOf_v {k : Nat} {l : List Int} (hb : Byt l) (hl : l.length ≤ 140737488351232) (s : Int) (hk : 100 < k) : impl_SumsOf.f k l s = some (toSs (sumsOf l s)) := by
  unfold impl_SumsOf.f sumsOf
  have hbl := blocks_le s (l.length : Int)
  obtain ⟨n, hn⟩ := Int.eq_ofNat_of_zero_le hbl.1
  have h := impl_SumsOf_l l hb hl s n hn n k 0 [] (by omega) (by omega) (by simp [toSs])
  rw [impl_Blocks_v, Option.bind_some, hn, Int.toNat_natCast]
  exact h

theorem laws_sameSums_l (a b : List S81) (hab : a.length = b.length) (hl : a.length ≤ 140737488355328) (d : Nat) : ∀ (k : Nat) (i : Nat), i ≤ a.length → a.length - i = d → d < k →
    laws_sameSums.l0 k a b (i : Int) = some (decide (a.drop i = b.drop i)) := by
  induction d with
  | zero =>
    intro k i hi hd hk
    obtain ⟨k, rfl⟩ : ∃ m, k = m + 1 := ⟨k - 1, by omega⟩
    simp only [laws_sameSums.l0]
    rw [if_neg (by omega)]
    have e : a.drop i = b.drop i := by rw [List.drop_eq_nil_of_le (by omega), List.drop_eq_nil_of_le (by omega)]
    rw [decide_eq_true e]
  | succ d ih =>
    intro k i hi hd hk
    obtain ⟨k, rfl⟩ : ∃ m, k = m + 1 := ⟨k - 1, by omega⟩
    simp only [laws_sameSums.l0]
    rw [if_pos (by omega), if_pos (by omega), if_pos (by omega), wnat (by omega), rd_S (by omega : i < a.length), rd_S (by omega : i < b.length), ih k (i + 1) (by omega) (by omega) (by omega)]
    have e := drop_eq_iffS (a := a) (b := b) (i := i) (by omega) (by omega)
    by_cases h : a[i]'(by omega) = b[i]'(by omega)
    · rw [if_neg (by rw [h]; simp)]; simp only [e, h, true_and]
    · rw [if_pos]
      · simp only [e, h, false_and, decide_false]
      · have h' : ¬ ((a[i]'(by omega)).f0 = (b[i]'(by omega)).f0 ∧ (a[i]'(by omega)).f1 = (b[i]'(by omega)).f1) := fun g => h (S_eq_iff.1 (Prod.ext g.1 g.2))
        by_cases g : (a[i]'(by omega)).f0 = (b[i]'(by omega)).f0
        · have g2 : ¬ (a[i]'(by omega)).f1 = (b[i]'(by omega)).f1 := fun z => h' ⟨g, z⟩
          simp [g, g2]
        · simp [g]
theorem laws_sameSums_v {k : Nat} {a b : List S81} (hl : a.length ≤ 140737488355328) (hk : a.length < k) : laws_sameSums.f k a b = some (decide (a = b)) := by
  unfold laws_sameSums.f
  by_cases h : a.length = b.length
  · rw [if_pos (by omega)]
    exact laws_sameSums_l a b h hl a.length k 0 (by omega) (by omega) hk
  · rw [if_neg (by omega)]
    have : a ≠ b := fun e => h (by rw [e])
    simp [this]

theorem bytesOfS_sum {s : Int} (h : (bytesOfS s).2 = true) : sumS (bytesOfS s).1 = s ∧ Byt (bytesOfS s).1 := by
  unfold bytesOfS at h ⊢
  by_cases c0 : s < 1
  · rw [if_pos c0] at h; simp at h
  rw [if_neg c0] at h ⊢
  by_cases c1 : s < 2
  · rw [if_pos c1]; exact ⟨by simp [sumS]; omega, byt_nil⟩
  rw [if_neg c1] at h ⊢
  by_cases c2 : s < 256
  · rw [if_pos c2] at h; simp at h
  rw [if_neg c2] at h ⊢
  by_cases c3 : s < 512
  · rw [if_pos c3]; exact ⟨sumS_dg 1 s (by omega) (by omega), dg_byt 1 s⟩
  rw [if_neg c3] at h ⊢
  by_cases c4 : s < 65536
  · rw [if_pos c4] at h; simp at h
  rw [if_neg c4] at h ⊢
  by_cases c5 : s < 131072
  · rw [if_pos c5]; exact ⟨sumS_dg 2 s (by omega) (by omega), dg_byt 2 s⟩
  rw [if_neg c5] at h ⊢
  by_cases c6 : s < 16777216
  · rw [if_pos c6] at h; simp at h
  rw [if_neg c6] at h ⊢
  by_cases c7 : s < 33554432
  · rw [if_pos c7]; exact ⟨sumS_dg 3 s (by omega) (by omega), dg_byt 3 s⟩
  rw [if_neg c7] at h ⊢
  by_cases c8 : s < 4294967296
  · rw [if_pos c8] at h; simp at h
  rw [if_neg c8] at h ⊢
  by_cases c9 : s < 8589934592
  · rw [if_pos c9]; exact ⟨sumS_dg 4 s (by omega) (by omega), dg_byt 4 s⟩
  rw [if_neg c9] at h ⊢
  by_cases d0 : s < 1099511627776
  · rw [if_pos d0] at h; simp at h
  rw [if_neg d0] at h ⊢
  by_cases d1 : s < 2199023255552
  · rw [if_pos d1]; exact ⟨sumS_dg 5 s (by omega) (by omega), dg_byt 5 s⟩
  rw [if_neg d1] at h ⊢
  by_cases d2 : s < 281474976710656
  · rw [if_pos d2] at h; simp at h
  rw [if_neg d2] at h ⊢
  by_cases d3 : s < 562949953421312
  · rw [if_pos d3]; exact ⟨sumS_dg 6 s (by omega) (by omega), dg_byt 6 s⟩
  rw [if_neg d3] at h; simp at h

theorem sumsOf_get {l : List Int} {s : Int} {i : Nat} (h : (i : Int) < blocks s (l.length : Int)) : (sumsOf l s)[i]? = some (sumOf (blockAt l s (i : Int)).1) := by
  unfold sumsOf
  rw [List.getElem?_map, List.getElem?_range (by omega)]; rfl

theorem spec_l4Size_x {b : List Int} {i : Int} (hc : Cur b i) (h : Int) : ∃ r i' h', spec_l4Size.f b i h = some (r, i', h') ∧ Cur b i' := by
  unfold spec_l4Size.f
  obtain ⟨o, i1, h1, e1, c1⟩ := spec_l1Once_x hc h 8
  rw [e1, Option.bind_some]
  cases o with
  | true =>
    obtain ⟨r, i2, h2, e2, _, c2⟩ := spec_l1Int_x c1 h1 (l := [0, 1, 7, (-2)]) (by decide)
    simp only [if_true, e2, Option.bind_some]
    exact ⟨_, _, _, rfl, c2⟩
  | false =>
    obtain ⟨r, i2, h2, e2, _, _, _, c2⟩ := spec_l1Below_x c1 h1 5
    simp only [Bool.false_eq_true, if_false, e2, Option.bind_some]
    exact ⟨_, _, _, rfl, c2⟩

theorem spec_DrawSumsOf_x {k : Nat} {b : List Int} (hb : b.length ≤ 1048576) (hk : 1049000 < k) : ∃ x s, spec_DrawSumsOf.f k b = some (x, s) ∧ Byt x ∧ x.length ≤ 14 := by
  unfold spec_DrawSumsOf.f
  obtain ⟨h, e⟩ := spec_l1New_x (k := k) hb (by omega)
  obtain ⟨x, i1, h1, e1, xb, xl, c1⟩ := spec_l3Bytes_x (k := k) (cur_start hb) h (by omega : (0 : Int) ≤ 14) (by omega) (by omega)
  obtain ⟨s, i2, h2, e2, c2⟩ := spec_l4Size_x c1 h1
  rw [e, Option.bind_some, e1, Option.bind_some, e2, Option.bind_some]
  exact ⟨_, _, rfl, xb, by first | omega | (dsimp only; omega)⟩

theorem spec_DrawBytesOf_x {k : Nat} {b : List Int} (hb : b.length ≤ 1048576) (hk : 1049000 < k) : ∃ s, spec_DrawBytesOf.f k b = some s := by
  unfold spec_DrawBytesOf.f
  obtain ⟨h, e⟩ := spec_l1New_x (k := k) hb (by omega)
  obtain ⟨o, i1, h1, e1, c1⟩ := spec_l1Once_x (cur_start hb) h 2
  rw [e, Option.bind_some, e1, Option.bind_some]
  cases o with
  | true =>
    obtain ⟨x, i2, h2, e2, xb, xl, c2⟩ := spec_l3Bytes_x (k := k) c1 h1 (by omega : (0 : Int) ≤ 6) (by omega) (by omega)
    simp only [if_true]
    rw [e2, Option.bind_some]
    dsimp only
    rw [spec_SumOf_v xb (by omega), Option.bind_some]
    exact ⟨_, rfl⟩
  | false =>
    obtain ⟨r, i2, h2, e2, _, c2⟩ := spec_l1Int_x c1 h1 (l := [0, 1, 2, 255, 256, 511, 512, 65536, 131072, 562949953421311, 562949953421312, (-1)]) (by decide)
    simp only [Bool.false_eq_true, if_false]
    rw [e2, Option.bind_some]
    exact ⟨_, rfl⟩

theorem spec_DrawBlocks_x {k : Nat} {b : List Int} (hb : b.length ≤ 1048576) (hk : 1049000 < k) : ∃ s n, spec_DrawBlocks.f k b = some (s, n) := by
  unfold spec_DrawBlocks.f
  obtain ⟨h, e⟩ := spec_l1New_x (k := k) hb (by omega)
  obtain ⟨s, i1, h1, e1, c1⟩ := spec_l4Size_x (cur_start hb) h
  obtain ⟨r, i2, h2, e2, _, c2⟩ := spec_l1Int_x c1 h1 (l := [0, 1, 5, 12, 80, 81, 240, 241, (-1)]) (by decide)
  rw [e, Option.bind_some, e1, Option.bind_some, e2, Option.bind_some]
  exact ⟨_, _, rfl⟩

theorem spec_DrawSizeOk_x {k : Nat} {b : List Int} (hb : b.length ≤ 1048576) (hk : 1049000 < k) : ∃ s n, spec_DrawSizeOk.f k b = some (s, n) := by
  unfold spec_DrawSizeOk.f
  obtain ⟨h, e⟩ := spec_l1New_x (k := k) hb (by omega)
  obtain ⟨s, i1, h1, e1, c1⟩ := spec_l4Size_x (cur_start hb) h
  obtain ⟨r, i2, h2, e2, _, c2⟩ := spec_l1Int_x c1 h1 (l := [0, 1, 80, 81, 240, 241, (-1)]) (by decide)
  rw [e, Option.bind_some, e1, Option.bind_some, e2, Option.bind_some]
  exact ⟨_, _, rfl⟩

theorem bytesOfS_sumS {q : List Int} (hq : Byt q) (hl : q.length ≤ 6) : bytesOfS (sumS q) = (q, true) := by
  have hb := sumS_bd q hq
  have hd := dg_sumS q hq
  have hn : q.length = 0 ∨ q.length = 1 ∨ q.length = 2 ∨ q.length = 3 ∨ q.length = 4 ∨ q.length = 5 ∨ q.length = 6 := by omega
  generalize sumS q = s at *
  unfold bytesOfS
  rcases hn with h | h | h | h | h | h | h <;> rw [h] at hb hd
  · have : q = [] := List.eq_nil_of_length_eq_zero h
    rw [if_neg (by omega), if_pos (by omega), this]
  · rw [if_neg (by omega), if_neg (by omega), if_neg (by omega), if_pos (by omega), hd]
  · rw [if_neg (by omega), if_neg (by omega), if_neg (by omega), if_neg (by omega), if_neg (by omega), if_pos (by omega), hd]
  · rw [if_neg (by omega), if_neg (by omega), if_neg (by omega), if_neg (by omega), if_neg (by omega), if_neg (by omega), if_neg (by omega), if_pos (by omega), hd]
  · rw [if_neg (by omega), if_neg (by omega), if_neg (by omega), if_neg (by omega), if_neg (by omega), if_neg (by omega), if_neg (by omega), if_neg (by omega), if_neg (by omega), if_pos (by omega), hd]
  · rw [if_neg (by omega), if_neg (by omega), if_neg (by omega), if_neg (by omega), if_neg (by omega), if_neg (by omega), if_neg (by omega), if_neg (by omega), if_neg (by omega), if_neg (by omega), if_neg (by omega), if_pos (by omega), hd]
  · rw [if_neg (by omega), if_neg (by omega), if_neg (by omega), if_neg (by omega), if_neg (by omega), if_neg (by omega), if_neg (by omega), if_neg (by omega), if_neg (by omega), if_neg (by omega), if_neg (by omega), if_neg (by omega), if_neg (by omega), if_pos (by omega), hd]
/-- The block at i, its place and what lies before it. -/
theorem block_at {l : List Int} {s : Int} (hs : sizeOk s (l.length : Int) = true) (i : Nat) (hi : (i : Int) < blocks s (l.length : Int)) :
    (spanOf s (l.length : Int) (i : Int)).1 = (i : Int) * s ∧ 0 ≤ (i : Int) * s ∧ (i : Int) * s ≤ (l.length : Int) ∧ (blockAt l s (i : Int)).2 = true ∧ (blockAt l s (i : Int)).1.length ≤ 6 ∧
    (spanOf s (l.length : Int) (i : Int)).2 = ((blockAt l s (i : Int)).1.length : Int) ∧ l.take ((i : Int) * s).toNat ++ (blockAt l s (i : Int)).1 = l.take (((i + 1 : Nat) : Int) * s).toNat := by
  obtain ⟨g0, g1, g2, g3⟩ := sizeOk_iff.1 hs
  obtain ⟨q0, q1, q2, q3, q4, q5, q6⟩ := span_in (s := s) (n := (l.length : Int)) (i := (i : Int)) (by omega) (by omega)
  have hsp : spanOf s (l.length : Int) (i : Int) = ((i : Int) * s, mn s ((l.length : Int) - (i : Int) * s)) := by unfold spanOf; rw [if_pos ⟨by omega, by omega⟩]
  have hm : ((i + 1 : Nat) : Int) * s = (i : Int) * s + s := by push_cast; rw [Int.add_mul]; omega
  rw [hm]
  unfold blockAt
  rw [hsp]
  dsimp only
  generalize (i : Int) * s = A at *
  have hw : 1 ≤ mn s ((l.length : Int) - A) ∧ mn s ((l.length : Int) - A) ≤ s ∧ A + mn s ((l.length : Int) - A) ≤ (l.length : Int) ∧ (mn s ((l.length : Int) - A) = s ∨ A + mn s ((l.length : Int) - A) = (l.length : Int)) := by
    unfold mn; split <;> omega
  generalize mn s ((l.length : Int) - A) = w at *
  rw [if_neg (by omega)]
  dsimp only
  refine ⟨rfl, by omega, by omega, rfl, by simp; omega, by simp; omega, ?_⟩
  have e1 : l.take A.toNat = (l.take (A + w).toNat).take A.toNat := by rw [List.take_take, Nat.min_eq_left (by omega)]
  rw [e1, List.take_append_drop]
  rcases hw.2.2.2 with e | e
  · rw [e]
  · rw [e, Int.toNat_natCast, List.take_length, List.take_of_length_le (by omega)]
theorem FnBlocks_l {b : List Int} (hb : Byt b) {s : Int} (hs : sizeOk s (b.length : Int) = true) (d : Nat) : ∀ (k i : Nat), (i : Int) + (d : Int) = blocks s (b.length : Int) → d + 300 < k →
    laws_FnBlocks.l0 k b s (toSs (sumsOf b s)) (b.take ((i : Int) * s).toNat) (i : Int) = some true := by
  have hB := blocks_le s (b.length : Int)
  have hL := sumsOf_length b s
  have hT : (toSs (sumsOf b s)).length = (sumsOf b s).length := toSs_length _
  obtain ⟨g0, g1, g2, g3⟩ := sizeOk_iff.1 hs
  induction d with
  | zero =>
    intro k i hi hk
    obtain ⟨k, rfl⟩ : ∃ m, k = m + 1 := ⟨k - 1, by omega⟩
    have hall : b.take ((i : Int) * s).toNat = b := by
      refine List.take_of_length_le ?_
      have e : (i : Int) = ((b.length : Int) + s - 1) / s := by
        have : blocks s (b.length : Int) = ((b.length : Int) + s - 1) / s := by unfold blocks; rw [if_pos hs]
        omega
      rcases size_cases g0 g1 with rfl | rfl | rfl | rfl | rfl <;> omega
    simp only [laws_FnBlocks.l0]
    rw [impl_Blocks_v, Option.bind_some, if_neg (by omega), hall, laws_same_v (by omega) (by omega), Option.bind_some, if_pos (decide_eq_true rfl), Option.bind_some]
    have : (((toSs (sumsOf b s)).length : Int) == blocks s (b.length : Int)) = true := beq_iff_eq.2 (by omega)
    rw [this]
  | succ d ih =>
    intro k i hi hk
    obtain ⟨k, rfl⟩ : ∃ m, k = m + 1 := ⟨k - 1, by omega⟩
    have hlt : (i : Int) < blocks s (b.length : Int) := by omega
    obtain ⟨p1, p2, p3, p4, p5, p6, p7⟩ := block_at hs i hlt
    have qb := blockAt_byt hb s (i : Int)
    have hln : i < (sumsOf b s).length := by omega
    have hget : (sumsOf b s)[i] = sumOf (blockAt b s (i : Int)).1 := by
      have e := sumsOf_get hlt
      rw [List.getElem?_eq_getElem hln] at e
      exact Option.some.inj e
    have hrd : rd_T81 (toSs (sumsOf b s)) (i : Int) = toS (sumOf (blockAt b s (i : Int)).1) := by
      rw [rd_S (by omega)]
      simp only [toSs, List.getElem_map]
      rw [hget]
    have hf1 : (toS (sumOf (blockAt b s (i : Int)).1)).f1 = sumS (blockAt b s (i : Int)).1 := by
      show (sumOf (blockAt b s (i : Int)).1).2 = _
      unfold sumOf; rw [if_pos p5]
    have hlen : ((b.take ((i : Int) * s).toNat).length : Int) = (i : Int) * s := by rw [List.length_take]; omega
    simp only [laws_FnBlocks.l0]
    rw [impl_Blocks_v, Option.bind_some, if_pos hlt, impl_BlockAt_v (by omega), Option.bind_some, if_pos (by omega), if_pos (by omega), hrd, hf1, impl_BytesOf_v _ (by omega), Option.bind_some, impl_SpanOf_v, Option.bind_some, bytesOfS_sumS qb p5, if_pos p4]
    dsimp only
    rw [if_pos rfl, laws_same_v (by omega) (by omega), Option.bind_some, if_pos (decide_eq_true rfl), impl_SumOf_v qb (by omega), Option.bind_some]
    have hs1 : (toS (sumOf (blockAt b s (i : Int)).1)).f0 = (sumOf (blockAt b s (i : Int)).1).1 := rfl
    have hs2 : sumS (blockAt b s (i : Int)).1 = (sumOf (blockAt b s (i : Int)).1).2 := by rw [← hf1]; rfl
    rw [hs1, hs2, if_neg (by simp), if_pos (by rw [p1, hlen]), if_pos p6, if_pos (by rw [List.length_take]; omega), wnat (by omega), p7]
    exact ih k (i + 1) (by omega) (by omega)
theorem FnBlocks : laws_FnBlocks.Pure := by
  intro l hm hr hw
  refine exists_ge 1050000 _ (fun k hk => ?_)
  unfold laws_FnBlocks.f
  rw [laws_big_v, Option.bind_some]
  by_cases hbig : (l.length : Int) > 1048576
  · rw [if_pos (decide_eq_true hbig)]
  · rw [if_neg (by simpa using hbig)]
    obtain ⟨b, s, e1, bb, bl⟩ := spec_DrawSumsOf_x (k := k) (b := l) (by omega) (by omega)
    obtain ⟨z, e2⟩ := spec_DrawBytesOf_x (k := k) (b := l) (by omega) (by omega)
    obtain ⟨p, e3, pb, pl⟩ := spec_DrawSumOf_x (k := k) (b := l) (by omega) (by omega)
    obtain ⟨c, n, e4⟩ := spec_DrawBlocks_x (k := k) (b := l) (by omega) (by omega)
    obtain ⟨d, m, e5⟩ := spec_DrawSizeOk_x (k := k) (b := l) (by omega) (by omega)
    have hz := bytesOfS_length z
    have hB := blocks_le s (b.length : Int)
    have hL := sumsOf_length b s
    have hT : (toSs (sumsOf b s)).length = (sumsOf b s).length := toSs_length _
    rw [e1, Option.bind_some, e2, Option.bind_some, impl_BytesOf_v _ (by omega), Option.bind_some, spec_BytesOf_v _ (by omega), Option.bind_some, e3, Option.bind_some, e4, Option.bind_some, e5, Option.bind_some, impl_SumsOf_v bb (by omega) s (by omega), Option.bind_some,
      spec_SumsOf_v bb (by omega) s (by omega), Option.bind_some, laws_sameSums_v (by omega) (by omega), Option.bind_some, if_pos (decide_eq_true rfl), laws_same_v (by omega) (by omega), Option.bind_some, if_pos (decide_eq_true rfl), bne_self_eq_false, if_neg (by decide),
      impl_SumOf_v pb (by omega), Option.bind_some, spec_SumOf_v pb (by omega), Option.bind_some, if_neg (by simp), impl_Blocks_v, Option.bind_some, spec_Blocks_v, Option.bind_some, if_pos rfl, impl_SizeOk_v, Option.bind_some, spec_SizeOk_v, Option.bind_some, bne_self_eq_false]
    obtain ⟨k, rfl⟩ : ∃ m, k = m + 2 := ⟨k - 2, by omega⟩
    simp only [laws_FnBlocks.j0]
    rw [if_neg (by decide)]
    have fin : laws_FnBlocks.j1 (k + 1) b s (toSs (sumsOf b s)) false = some true := by
      simp only [laws_FnBlocks.j1]
      rw [if_neg (by decide), impl_SizeOk_v, Option.bind_some]
      by_cases hs : sizeOk s (b.length : Int) = true
      · rw [if_pos hs]
        have h := FnBlocks_l bb hs (blocks s (b.length : Int)).toNat k 0 (by omega) (by omega)
        rw [show ((0 : Nat) : Int) * s = 0 from by simp, show ((0 : Nat) : Int) = 0 from rfl, show (0 : Int).toNat = 0 from rfl, List.take_zero] at h
        exact h
      · rw [if_neg hs]
        have h0 : blocks s (b.length : Int) = 0 := by unfold blocks; rw [if_neg hs]
        have : (((toSs (sumsOf b s)).length : Int) == 0) = true := beq_iff_eq.2 (by omega)
        rw [this]
    by_cases ok : (bytesOfS z).2 = true
    · obtain ⟨h1, h2⟩ := bytesOfS_sum ok
      rw [if_pos ok, impl_SumOf_v h2 (by omega), Option.bind_some]
      have : (sumOf (bytesOfS z).1).2 = z := by unfold sumOf; rw [if_pos hz]; exact h1
      rw [this, bne_self_eq_false]; exact fin
    · rw [if_neg ok]; exact fin

end Go.Proofs.Ytfmhhjlhaklljaa.Pure
