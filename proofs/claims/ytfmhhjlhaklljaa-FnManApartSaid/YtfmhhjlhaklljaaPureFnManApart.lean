/- For all draws: two images have equal manifests exactly if they are equal; no condition. -/
import Derived.Test.YtfmhhjlhaklljaaPFnManApartx6
import Derived.Test.YtfmhhjlhaklljaaLib
set_option linter.unusedVariables false
set_option linter.unusedSimpArgs false
namespace Go.Proofs.Ytfmhhjlhaklljaa.Pure
open Go.RowKit Go.Proofs.Ytfmhhjlhaklljaa.PFnManApart Go.Proofs.YtfmhhjlhaklljaaW.PrintWords Go.Proofs.YtfmhhjlhaklljaaW.PrintLast Go.Proofs.YtfmhhjlhaklljaaW.PrintMore Go.Proofs.Ytfmhhjlhaklljaa.Lib

instance : DecidableEq S81 := fun a b => decidable_of_iff (a.f0 = b.f0 ∧ a.f1 = b.f1) ⟨fun h => by cases a; cases b; simp_all, fun h => by rw [h]; exact ⟨rfl, rfl⟩⟩
def toS (p : Int × Int) : S81 := ⟨p.1, p.2⟩
def toSs (l : List (Int × Int)) : List S81 := l.map toS
theorem toS_inj {p q : Int × Int} (h : toS p = toS q) : p = q := by
  have h1 := congrArg S81.f0 h
  have h2 := congrArg S81.f1 h
  exact Prod.ext h1 h2
theorem toSs_inj {l m : List (Int × Int)} (h : toSs l = toSs m) : l = m := (List.map_inj_right (fun p q hq => toS_inj hq)).1 h
theorem toSs_length (l : List (Int × Int)) : (toSs l).length = l.length := by simp [toSs]
theorem toSs_onto (l : List S81) : ∃ m, l = toSs m ∧ m.length = l.length := ⟨l.map fun s => (s.f0, s.f1), by
  induction l with
  | nil => rfl
  | cons s l ih => simp only [List.map_cons, toSs] at ih ⊢; rw [← ih]; rfl, by simp⟩
theorem rd_S {l : List S81} {i : Nat} (h : i < l.length) : rd_T81 l (i : Int) = l[i] := by
  unfold rd_T81
  rw [Int.toNat_natCast, List.getD_eq_getElem?_getD, List.getElem?_eq_getElem h]; rfl
theorem drop_eq_iffS {a b : List S81} {i : Nat} (ha : i < a.length) (hb : i < b.length) : (a.drop i = b.drop i) ↔ (a[i] = b[i] ∧ a.drop (i + 1) = b.drop (i + 1)) := by
  rw [List.drop_eq_getElem_cons ha, List.drop_eq_getElem_cons hb, List.cons.injEq]
theorem S_eq_iff {a b : S81} : (a.f0, a.f1) = (b.f0, b.f1) ↔ a = b := by cases a; cases b; simp

theorem impl_within_v (a b c : Int) : impl_within.f a b c = some (decide (b ≤ a ∧ a ≤ c)) := by
  unfold impl_within.f
  by_cases h : b ≤ a
  · rw [if_pos h]; simp [h]
  · rw [if_neg h]; simp [h]

theorem impl_Wrap_v {a m : Int} (h0 : 1 ≤ m) (h1 : m ≤ 1000000000000) : impl_Wrap.f a m = some (a % m) := by
  unfold impl_Wrap.f
  rw [impl_within_v, Option.bind_some, decide_eq_true (by omega), if_pos rfl, if_neg (by omega)]
  have h2 : a.tmod m = a - m * a.tdiv m := by have := Int.mul_tdiv_add_tmod a m; omega
  have h3 : -m < a.tmod m ∧ a.tmod m < m := ⟨by have := Int.lt_tmod_of_pos a (by omega : 0 < m); omega, Int.tmod_lt_of_pos a (by omega)⟩
  rw [w64 (by omega) (by omega), tmod_nn (by omega), Int.add_emod_right, h2, Int.sub_mul_emod_self_left]

theorem impl_weak_v (x y : Int) : impl_weak.f x y = some (x % 251 + 251 * (y % 251)) := by
  unfold impl_weak.f
  rw [impl_Wrap_v (by omega) (by omega), impl_Wrap_v (by omega) (by omega)]
  simp only [Option.bind_some]
  rw [w64 (x := 251 * (y % 251)) (by omega) (by omega), w64 (by omega) (by omega)]

theorem impl_WeakOf_l (l : List Int) (hb : Byt l) (hl : l.length ≤ 140737488351232) (d : Nat) : ∀ (k : Nat) (i : Nat), i ≤ l.length → l.length - i = d → d < k →
    impl_WeakOf.l0 k (sx (l.take i) % 251) (sy (l.take i) % 251) l (l.length : Int) (i : Int) = some (weakOf l) := by
  induction d with
  | zero =>
    intro k i hi hd hk
    obtain ⟨k, rfl⟩ : ∃ m, k = m + 1 := ⟨k - 1, by omega⟩
    simp only [impl_WeakOf.l0]
    rw [if_neg (by omega), impl_weak_v, List.take_of_length_le (by omega)]
    simp only [Option.bind_some, weakOf, Int.emod_emod]
  | succ d ih =>
    intro k i hi hd hk
    obtain ⟨k, rfl⟩ : ∃ m, k = m + 1 := ⟨k - 1, by omega⟩
    simp only [impl_WeakOf.l0]
    have hc := hb l[i] (List.getElem_mem (by omega))
    rw [if_pos (by omega), if_pos (by omega), if_pos (by omega), wnat (by omega), rd_at (by omega : i < l.length), w64 (x := l[i]) (by omega) (by omega), w64 (by omega) (by omega), tmod_nn (by omega), w64 (by omega) (by omega), tmod_nn (by omega)]
    have e : l.take (i + 1) = l.take i ++ [l[i]] := List.take_succ_eq_append_getElem (by omega)
    have := ih k (i + 1) (by omega) (by omega) (by omega)
    rw [e, sx_snoc, sy_snoc] at this
    rw [show (sx (l.take i) % 251 + l[i]) % 251 = (sx (l.take i) + l[i]) % 251 from by omega, show (sy (l.take i) % 251 + (sx (l.take i) + l[i]) % 251) % 251 = (sy (l.take i) + sx (l.take i) + l[i]) % 251 from by omega]
    exact this
theorem impl_WeakOf_v {k : Nat} {l : List Int} (hb : Byt l) (hl : l.length ≤ 140737488351232) (hk : l.length < k) : impl_WeakOf.f k l = some (weakOf l) := by
  unfold impl_WeakOf.f
  exact impl_WeakOf_l l hb hl l.length k 0 (by omega) (by omega) hk

theorem impl_SizeOk_v (s n : Int) : impl_SizeOk.f s n = some (sizeOk s n) := by
  unfold impl_SizeOk.f sizeOk
  rw [impl_within_v]
  simp only [Option.bind_some]
  by_cases h : 2 ≤ s ∧ s ≤ 6
  · rw [decide_eq_true h, if_pos rfl, impl_within_v, Int.mul_comm 40 s, w64 (by omega) (by omega)]
    simp [h]
  · rw [decide_eq_false h, if_neg (by decide)]
    have : ¬ (2 ≤ s ∧ s ≤ 6 ∧ 0 ≤ n ∧ n ≤ s * 40) := fun g => h ⟨g.1, g.2.1⟩
    rw [decide_eq_false this]

theorem impl_CeilDiv_v {a b : Int} (h0 : 0 ≤ a) (h1 : a ≤ 1000000000000) (h2 : 1 ≤ b) (h3 : b ≤ 1000000000000) : impl_CeilDiv.f a b = some ((a + b - 1) / b) := by
  unfold impl_CeilDiv.f
  rw [impl_within_v, Option.bind_some, decide_eq_true (by omega), if_pos rfl, impl_within_v, Option.bind_some, decide_eq_true (by omega), if_pos rfl, if_neg (by omega), w64 (x := a + b) (by omega) (by omega), w64 (x := a + b - 1) (by omega) (by omega), tdiv_nn (by omega)]
  have h4 : 0 ≤ (a + b - 1) / b := Int.ediv_nonneg (by omega) (by omega)
  have h5 : (a + b - 1) / b ≤ a + b - 1 := Int.ediv_le_self _ (by omega)
  rw [w64 (by omega) (by omega)]

theorem impl_Blocks_v (s n : Int) : impl_Blocks.f s n = some (blocks s n) := by
  unfold impl_Blocks.f blocks
  rw [impl_SizeOk_v, Option.bind_some]
  by_cases h : sizeOk s n = true
  · obtain ⟨h0, h1, h2, h3⟩ := sizeOk_iff.1 h
    rw [if_pos h, if_pos h, impl_CeilDiv_v (by omega) (by omega) (by omega) (by omega)]
    rfl
  · rw [if_neg h, if_neg h]

theorem impl_SpanOf_v (s n i : Int) : impl_SpanOf.f s n i = some (spanOf s n i) := by
  unfold impl_SpanOf.f spanOf
  rw [impl_Blocks_v, Option.bind_some, impl_within_v, Option.bind_some]
  have hb := blocks_le s n
  rw [w64 (x := blocks s n - 1) (by omega) (by omega)]
  by_cases h : 0 ≤ i ∧ i ≤ blocks s n - 1
  · obtain ⟨h0, h1, h2, h3, h4, h5, h6⟩ := span_in h.1 h.2
    rw [decide_eq_true h, if_pos rfl, if_pos h, w64 (x := i * s) (by omega) (by omega), w64 (by omega) (by omega)]
  · rw [decide_eq_false h, if_neg (by decide), if_neg h]

theorem impl_cloned_v {l : List Int} (hl : l.length ≤ 140737488351232) : impl_cloned.f l = some l := by
  unfold impl_cloned.f
  rw [if_pos (by omega), if_pos (by omega)]
  simp only [List.replicate_zero, Option.bind_some, List.nil_append, List.length_nil]
  rw [if_pos (by omega)]

theorem spec_Slice_v {l : List Int} (hl : l.length ≤ 140737488351232) (a n : Int) : spec_Slice.f l a n = some (sliceB l a n) := by
  unfold spec_Slice.f sliceB
  by_cases h0 : a < 0
  · rw [if_pos h0, if_neg (by omega)]
  · by_cases h1 : n < 0
    · rw [if_neg h0, if_pos h1, if_neg (by omega)]
    · by_cases h2 : a > (l.length : Int)
      · rw [if_neg h0, if_neg h1, if_pos h2, if_neg (by omega)]
      · rw [if_neg h0, if_neg h1, if_neg h2, w64 (x := (l.length : Int) - a) (by omega) (by omega)]
        by_cases h3 : n > (l.length : Int) - a
        · rw [if_pos h3, if_neg (by omega)]
        · rw [if_neg h3, Option.bind_some, w64 (x := a + n) (by omega) (by omega), if_pos (by omega), if_pos (by omega), if_pos (by omega), if_pos (by simp; omega), if_pos ⟨by omega, by omega, by omega, by omega⟩]
          rfl

theorem impl_Slice_v {l : List Int} (hl : l.length ≤ 140737488351232) (a n : Int) : impl_Slice.f l a n = some (sliceB l a n) := by
  unfold impl_Slice.f sliceB
  rw [impl_within_v, Option.bind_some]
  by_cases h0 : 0 ≤ a ∧ a ≤ (l.length : Int)
  · rw [decide_eq_true h0, if_pos rfl, impl_within_v, Option.bind_some, w64 (x := (l.length : Int) - a) (by omega) (by omega)]
    by_cases h1 : 0 ≤ n ∧ n ≤ (l.length : Int) - a
    · rw [decide_eq_true h1, if_pos rfl, w64 (x := a + n) (by omega) (by omega), if_pos (by omega), if_pos (by omega), if_pos (by omega), impl_cloned_v (by simp; omega), if_pos ⟨by omega, by omega, by omega, by omega⟩]
      rfl
    · rw [decide_eq_false h1, if_neg (by decide), if_neg (by omega)]
  · rw [decide_eq_false h0, if_neg (by decide), if_neg (by omega)]

theorem impl_SumOf_l (l : List Int) (hb : Byt l) (hl : l.length ≤ 6) (d : Nat) : ∀ (k : Nat) (i : Nat), i ≤ l.length → l.length - i = d → d + 10 < k → impl_SumOf.l0 k l (sumS (l.take i)) l (l.length : Int) (i : Int) = some (weakOf l, sumS l) := by
  induction d with
  | zero =>
    intro k i hi hd hk
    obtain ⟨k, rfl⟩ : ∃ m, k = m + 1 := ⟨k - 1, by omega⟩
    simp only [impl_SumOf.l0]
    rw [if_neg (by omega), impl_WeakOf_v hb (by omega) (by omega), List.take_of_length_le (by omega)]; rfl
  | succ d ih =>
    intro k i hi hd hk
    obtain ⟨k, rfl⟩ : ∃ m, k = m + 1 := ⟨k - 1, by omega⟩
    simp only [impl_SumOf.l0]
    have hc := hb l[i] (List.getElem_mem (by omega))
    have h1 := sumS_small (l := l.take i) (byt_take hb i) (by simp; omega)
    rw [if_pos (by omega), if_pos (by omega), if_pos (by omega), wnat (by omega), rd_at (by omega : i < l.length), w64 (x := sumS (l.take i) * 256) (by omega) (by omega), w64 (x := l[i]) (by omega) (by omega), or_256 (by omega) (by omega) hc.1 hc.2]
    have e : l.take (i + 1) = l.take i ++ [l[i]] := List.take_succ_eq_append_getElem (by omega)
    have := ih k (i + 1) (by omega) (by omega) (by omega)
    rw [e, sumS_snoc] at this
    exact this
theorem impl_SumOf_v {k : Nat} {l : List Int} (hb : Byt l) (hk : 20 < k) : impl_SumOf.f k l = some (sumOf l) := by
  unfold impl_SumOf.f sumOf
  by_cases h : l.length ≤ 6
  · rw [if_neg (by omega), if_pos h]
    exact impl_SumOf_l l hb h l.length k 0 (by omega) (by omega) (by omega)
  · rw [if_pos (by omega), if_neg h]

theorem impl_BlockAt_v {l : List Int} (hl : l.length ≤ 140737488351232) (s i : Int) : impl_BlockAt.f l s i = some (blockAt l s i) := by
  unfold impl_BlockAt.f blockAt
  rw [impl_SpanOf_v, Option.bind_some]
  have hg := spanOf_range s (l.length : Int) i
  generalize spanOf s (l.length : Int) i = r at hg ⊢
  by_cases h : r.2 = 0
  · rw [if_pos h, if_pos h]
  · obtain ⟨g0, g1, g2⟩ := hg h
    rw [if_neg h, if_neg h, impl_Slice_v hl, Option.bind_some]
    rw [sliceB_yes (by omega) (by omega) (by omega) (by omega)]

theorem laws_big_v (l : List Int) : laws_big.f l = some (decide ((l.length : Int) > 1048576)) := rfl

theorem laws_same_l (a b : List Int) (hab : a.length = b.length) (hl : a.length ≤ 140737488355328) (d : Nat) : ∀ (k : Nat) (i : Nat), i ≤ a.length → a.length - i = d → d < k →
    laws_same.l0 k a b (i : Int) = some (decide (a.drop i = b.drop i)) := by
  induction d with
  | zero =>
    intro k i hi hd hk
    obtain ⟨k, rfl⟩ : ∃ m, k = m + 1 := ⟨k - 1, by omega⟩
    simp only [laws_same.l0]
    rw [if_neg (by omega), List.drop_eq_nil_of_le (by omega), List.drop_eq_nil_of_le (by omega)]
    rfl
  | succ d ih =>
    intro k i hi hd hk
    obtain ⟨k, rfl⟩ : ∃ m, k = m + 1 := ⟨k - 1, by omega⟩
    simp only [laws_same.l0]
    rw [if_pos (by omega), if_pos (by omega), if_pos (by omega), wnat (by omega), rd_at (by omega : i < a.length), rd_at (by omega : i < b.length), ih k (i + 1) (by omega) (by omega) (by omega)]
    have e := drop_eq_iff (a := a) (b := b) (i := i) (by omega) (by omega)
    by_cases h : a[i]'(by omega) = b[i]'(by omega)
    · rw [if_pos h]; simp only [e, h, true_and]
    · rw [if_neg h]; simp only [e, h, false_and, decide_false]
theorem laws_same_v {k : Nat} {a b : List Int} (hl : a.length ≤ 140737488355328) (hk : a.length < k) : laws_same.f k a b = some (decide (a = b)) := by
  unfold laws_same.f
  by_cases h : a.length = b.length
  · rw [if_pos (by omega)]
    exact laws_same_l a b h hl a.length k 0 (by omega) (by omega) hk
  · rw [if_neg (by omega)]
    have : a ≠ b := fun e => h (by rw [e])
    simp [this]

theorem spec_l1New_l (b : List Int) (hb : b.length ≤ 1048576) (d : Nat) : ∀ (k i : Nat) (h : Int), i ≤ b.length → b.length - i = d → d < k → ∃ h', spec_l1New.l0 k b h (i : Int) = some (b, 0, h') := by
  induction d with
  | zero =>
    intro k i h hi hd hk
    obtain ⟨k, rfl⟩ : ∃ m, k = m + 1 := ⟨k - 1, by omega⟩
    simp only [spec_l1New.l0]
    rw [if_neg (by omega)]
    exact ⟨_, rfl⟩
  | succ d ih =>
    intro k i h hi hd hk
    obtain ⟨k, rfl⟩ : ∃ m, k = m + 1 := ⟨k - 1, by omega⟩
    simp only [spec_l1New.l0]
    rw [if_pos (by omega)]
    by_cases h4 : (i : Int) < 4000
    · rw [if_pos h4, if_pos (by omega), wnat (by omega)]
      exact ih k (i + 1) _ (by omega) (by omega) (by omega)
    · rw [if_neg h4]; exact ⟨_, rfl⟩
theorem spec_l1New_x {k : Nat} {b : List Int} (hb : b.length ≤ 1048576) (hk : b.length < k) : ∃ h', spec_l1New.f k b = some (b, 0, h') := by
  unfold spec_l1New.f
  exact spec_l1New_l b hb b.length k 0 _ (by omega) (by omega) hk
theorem cur_start {b : List Int} (hb : b.length ≤ 1048576) : Cur b 0 := ⟨hb, by omega, by omega⟩

theorem spec_l1Byte_x {b : List Int} {i : Int} (hc : Cur b i) (h : Int) : ∃ r i' h', spec_l1Byte.f b i h = some (r, i', h') ∧ 0 ≤ r ∧ r ≤ 255 ∧ Cur b i' := by
  obtain ⟨h0, h1, h2⟩ := hc
  unfold spec_l1Byte.f
  by_cases hi : i < (b.length : Int)
  · rw [if_pos hi, if_pos h1, w64 (x := i + 1) (by omega) (by omega)]
    exact ⟨_, _, _, rfl, (and_le _).1, (and_le _).2, h0, by omega, by omega⟩
  · rw [if_neg hi]
    exact ⟨_, _, _, rfl, (and_le _).1, (and_le _).2, h0, h1, h2⟩

theorem spec_l1Below_x {b : List Int} {i : Int} (hc : Cur b i) (h : Int) (n : Int) : ∃ r i' h', spec_l1Below.f b i h n = some (r, i', h') ∧ 0 ≤ r ∧ (n ≤ 0 → r = 0) ∧ (0 < n → r < n) ∧ Cur b i' := by
  unfold spec_l1Below.f
  by_cases hn : n ≤ 0
  · rw [if_pos hn]
    exact ⟨_, _, _, rfl, by omega, fun _ => rfl, fun h => by omega, hc⟩
  · rw [if_neg hn]
    by_cases h256 : n ≤ 256
    · rw [if_pos h256]
      obtain ⟨r, i', h', e, r0, r1, hc'⟩ := spec_l1Byte_x hc h
      rw [e, Option.bind_some, if_neg (by omega)]
      refine ⟨_, _, _, rfl, ?_, fun h => by omega, fun _ => ?_, hc'⟩ <;> dsimp only <;> rw [tmod_nn r0]
      · exact Int.emod_nonneg _ (by omega)
      · exact Int.emod_lt_of_pos _ (by omega)
    · rw [if_neg h256]
      obtain ⟨r, i', h', e, r0, r1, hc'⟩ := spec_l1Byte_x hc h
      obtain ⟨s, i'', h'', e', s0, s1, hc''⟩ := spec_l1Byte_x hc' h'
      obtain ⟨t, i3, h3, e3, t0, t1, hc3⟩ := spec_l1Byte_x hc'' h''
      rw [e, Option.bind_some, e', Option.bind_some, e3, Option.bind_some, if_neg (by omega)]
      refine ⟨_, _, _, rfl, ?_, fun h => by omega, fun _ => ?_, hc3⟩ <;> dsimp only <;> rw [w64 (x := r * 65536) (by omega) (by omega), w64 (x := s * 256) (by omega) (by omega), w64 (x := r * 65536 + s * 256) (by omega) (by omega), w64 (x := r * 65536 + s * 256 + t) (by omega) (by omega), tmod_nn (by omega)]
      · exact Int.emod_nonneg _ (by omega)
      · exact Int.emod_lt_of_pos _ (by omega)

theorem spec_l1Int_x {b : List Int} {i : Int} (hc : Cur b i) (h : Int) {l : List Int} (hl : 0 < l.length) : ∃ r i' h', spec_l1Int.f b i h l = some (r, i', h') ∧ r ∈ l ∧ Cur b i' := by
  unfold spec_l1Int.f
  obtain ⟨r, i', h', e, r0, r1, r2, hc'⟩ := spec_l1Below_x hc h (l.length : Int)
  have := r2 (by omega)
  rw [e, Option.bind_some, if_pos r0, if_pos this]
  refine ⟨_, _, _, rfl, ?_, hc'⟩
  obtain ⟨m, rfl⟩ := Int.eq_ofNat_of_zero_le r0
  dsimp only
  rw [rd_at (by omega : m < l.length)]
  exact List.getElem_mem _

theorem spec_l1Once_x {b : List Int} {i : Int} (hc : Cur b i) (h : Int) (n : Int) : ∃ (r : Bool) (i' h' : Int), spec_l1Once.f b i h n = some (r, i', h') ∧ Cur b i' := by
  unfold spec_l1Once.f
  obtain ⟨r, i', h', e, r0, r1, r2, hc'⟩ := spec_l1Below_x hc h n
  rw [e, Option.bind_some]
  exact ⟨_, _, _, rfl, hc'⟩

theorem spec_l3Bytes_l {b : List Int} (d : Nat) : ∀ (k : Nat) (acc : List Int) (i h : Int), Cur b i → Byt acc → acc.length + d ≤ 1000000 → d < k →
    ∃ r i' h', spec_l3Bytes.l0 k acc (d : Int) b i h = some (r, i', h') ∧ Byt r ∧ r.length = acc.length + d ∧ Cur b i' := by
  induction d with
  | zero =>
    intro k acc i h hc hb ha hk
    obtain ⟨k, rfl⟩ : ∃ m, k = m + 1 := ⟨k - 1, by omega⟩
    simp only [spec_l3Bytes.l0]
    rw [if_neg (by omega)]
    exact ⟨_, _, _, rfl, hb, rfl, hc⟩
  | succ d ih =>
    intro k acc i h hc hb ha hk
    obtain ⟨k, rfl⟩ : ∃ m, k = m + 1 := ⟨k - 1, by omega⟩
    simp only [spec_l3Bytes.l0]
    obtain ⟨r, i', h', e, hr, hc'⟩ := spec_l1Int_x hc h (l := [97, 98, 99, 0, 255]) (by decide)
    have hr2 : 0 ≤ r ∧ r ≤ 255 := by
      simp only [List.mem_cons, List.not_mem_nil, or_false] at hr
      omega
    rw [if_pos (by omega), e, Option.bind_some, if_pos (by omega), mod256 hr2.1 hr2.2, w64 (by omega) (by omega), show ((d + 1 : Nat) : Int) - 1 = (d : Int) from by omega]
    obtain ⟨r2, i2, h2, e2, b2, l2, c2⟩ := ih k (acc ++ [r]) i' h' hc' (byt_snoc.2 ⟨hb, hr2⟩) (by simp; omega) (by omega)
    exact ⟨r2, i2, h2, e2, b2, by rw [l2]; simp; omega, c2⟩
theorem spec_l3Bytes_x {k : Nat} {b : List Int} {i : Int} (hc : Cur b i) (h : Int) {n : Int} (h0 : 0 ≤ n) (h1 : n ≤ 1000) (hk : 2000 < k) : ∃ r i' h', spec_l3Bytes.f k b i h n = some (r, i', h') ∧ Byt r ∧ (r.length : Int) ≤ n ∧ Cur b i' := by
  unfold spec_l3Bytes.f
  rw [w64 (by omega) (by omega)]
  obtain ⟨r, i', h', e, r0, r1, r2, hc'⟩ := spec_l1Below_x hc h (n + 1)
  have := r2 (by omega)
  rw [e, Option.bind_some]
  obtain ⟨m, rfl⟩ := Int.eq_ofNat_of_zero_le r0
  obtain ⟨r2, i2, h2, e2, b2, l2, c2⟩ := spec_l3Bytes_l m k [] i' h' hc' byt_nil (by simp; omega) (by omega)
  exact ⟨r2, i2, h2, e2, b2, by rw [l2]; simp; omega, c2⟩

theorem spec_l1Bytes_l {b : List Int} (n : Nat) (hn : n ≤ 1000000) (d : Nat) : ∀ (k : Nat) (acc : List Int) (j : Nat) (i h : Int), Cur b i → Byt acc → acc.length = j → j + d = n → d < k →
    ∃ r i' h', spec_l1Bytes.l0 k (n : Int) acc (j : Int) b i h = some (r, i', h') ∧ Byt r ∧ r.length = n ∧ Cur b i' := by
  induction d with
  | zero =>
    intro k acc j i h hc hb ha hd hk
    obtain ⟨k, rfl⟩ : ∃ m, k = m + 1 := ⟨k - 1, by omega⟩
    simp only [spec_l1Bytes.l0]
    rw [if_neg (by omega)]
    exact ⟨_, _, _, rfl, hb, by omega, hc⟩
  | succ d ih =>
    intro k acc j i h hc hb ha hd hk
    obtain ⟨k, rfl⟩ : ∃ m, k = m + 1 := ⟨k - 1, by omega⟩
    simp only [spec_l1Bytes.l0]
    obtain ⟨r, i', h', e, r0, r1, hc'⟩ := spec_l1Byte_x hc h
    rw [if_pos (by omega), e, Option.bind_some, if_pos (by omega), mod256 r0 r1, wnat (by omega)]
    exact ih k (acc ++ [r]) (j + 1) i' h' hc' (byt_snoc.2 ⟨hb, r0, r1⟩) (by simp; omega) (by omega) (by omega)
theorem spec_l1Bytes_x {k : Nat} {b : List Int} {i : Int} (hc : Cur b i) (h : Int) {n : Int} (h0 : 0 ≤ n) (h1 : n ≤ 1000) (hk : 2000 < k) : ∃ r i' h', spec_l1Bytes.f k b i h n = some (r, i', h') ∧ Byt r ∧ (r.length : Int) = n ∧ Cur b i' := by
  unfold spec_l1Bytes.f
  obtain ⟨m, rfl⟩ := Int.eq_ofNat_of_zero_le h0
  obtain ⟨r2, i2, h2, e2, b2, l2, c2⟩ := spec_l1Bytes_l m (by omega) m k [] 0 i h hc byt_nil rfl (by omega) (by omega)
  exact ⟨r2, i2, h2, e2, b2, by omega, c2⟩

theorem byt_set {l : List Int} (h : Byt l) (i : Nat) {v : Int} (h0 : 0 ≤ v) (h1 : v ≤ 255) : Byt (l.set i v) := by
  intro x hx
  rcases List.mem_or_eq_of_mem_set hx with hx | rfl
  · exact h x hx
  · exact ⟨h0, h1⟩
theorem u8_range (op : BinOp) (x y : Int) : 0 ≤ Go.bits op .u8 x y ∧ Go.bits op .u8 x y ≤ 255 := by
  unfold Go.bits
  simp only [IntKind.wrap_u8]
  omega
theorem spec_l1Bent_x {b : List Int} {i : Int} (hc : Cur b i) (h : Int) {l : List Int} (hb : Byt l) (hl : l.length ≤ 1000000) : ∃ r i' h', spec_l1Bent.f b i h l = some (r, i', h') ∧ Byt r ∧ r.length ≤ l.length + 1 ∧ Cur b i' := by
  unfold spec_l1Bent.f
  simp only [Option.bind_some, List.length_nil, List.nil_append]
  rw [if_pos (by omega)]
  obtain ⟨r, i1, h1, e1, r0, _, r2, c1⟩ := spec_l1Below_x hc h 6
  rw [e1]
  simp only [Option.bind_some]
  by_cases q0 : r = 0
  · rw [if_pos q0]
    by_cases hp : (l.length : Int) > 0
    · rw [if_pos hp]
      obtain ⟨s, i2, h2, e2, s0, _, s2, c2⟩ := spec_l1Below_x c1 h1 (l.length : Int)
      obtain ⟨t, i3, h3, e3, t0, _, t2, c3⟩ := spec_l1Below_x c2 h2 256
      have := s2 (by omega)
      rw [e2]
      simp only [Option.bind_some]
      rw [e3]
      simp only [Option.bind_some]
      rw [if_pos s0, if_pos (by omega)]
      exact ⟨_, _, _, rfl, byt_set hb _ (by omega) (by omega), by simp, c3⟩
    · rw [if_neg hp]; exact ⟨_, _, _, rfl, hb, by omega, c1⟩
  · rw [if_neg q0]
    by_cases q1 : r = 1
    · rw [if_pos q1, w64 (by omega) (by omega)]
      obtain ⟨s, i2, h2, e2, s0, _, s2, c2⟩ := spec_l1Below_x c1 h1 ((l.length : Int) + 1)
      have := s2 (by omega)
      rw [e2]
      simp only [Option.bind_some]
      rw [if_pos s0, if_pos (by omega)]
      exact ⟨_, _, _, rfl, byt_take hb _, by simp; omega, c2⟩
    · rw [if_neg q1]
      by_cases q2 : r = 2
      · rw [if_pos q2]
        obtain ⟨s, i2, h2, e2, hs, c2⟩ := spec_l1Int_x c1 h1 (l := [0, 1, 128, 255]) (by decide)
        rw [e2]
        simp only [Option.bind_some]
        rw [if_pos (by omega)]
        exact ⟨_, _, _, rfl, byt_snoc.2 ⟨hb, by omega, by omega⟩, by simp, c2⟩
      · rw [if_neg q2]
        by_cases q3 : r = 3
        · rw [if_pos q3]
          by_cases hp : (l.length : Int) > 0
          · rw [if_pos hp]
            obtain ⟨s, i2, h2, e2, s0, _, s2, c2⟩ := spec_l1Below_x c1 h1 (l.length : Int)
            obtain ⟨t, i3, h3, e3, t0, _, t2, c3⟩ := spec_l1Below_x c2 h2 8
            have := s2 (by omega)
            rw [e2]
            simp only [Option.bind_some]
            rw [if_pos s0, if_pos (by omega), e3]
            simp only [Option.bind_some]
            rw [if_pos t0]
            exact ⟨_, _, _, rfl, byt_set hb _ (u8_range _ _ _).1 (u8_range _ _ _).2, by simp, c3⟩
          · rw [if_neg hp]; exact ⟨_, _, _, rfl, hb, by omega, c1⟩
        · rw [if_neg q3]; exact ⟨_, _, _, rfl, hb, by omega, c1⟩

theorem impl_SumsOf_l (l : List Int) (hb : Byt l) (hl : l.length ≤ 140737488351232) (s : Int) (n : Nat) (hn : blocks s (l.length : Int) = (n : Int)) (d : Nat) : ∀ (k i : Nat) (acc : List S81), i + d = n → d + 30 < k →
    acc = toSs ((List.range i).map fun (j : Nat) => sumOf (blockAt l s (j : Int)).1) → impl_SumsOf.l0 k l s acc (n : Int) (i : Int) = some (toSs ((List.range n).map fun (j : Nat) => sumOf (blockAt l s (j : Int)).1)) := by
  have hbl := blocks_le s (l.length : Int)
  induction d with
  | zero =>
    intro k i acc hi hk hacc
    obtain ⟨k, rfl⟩ : ∃ m, k = m + 1 := ⟨k - 1, by omega⟩
    simp only [impl_SumsOf.l0]
    rw [if_neg (by omega), hacc, show i = n from by omega]
  | succ d ih =>
    intro k i acc hi hk hacc
    obtain ⟨k, rfl⟩ : ∃ m, k = m + 1 := ⟨k - 1, by omega⟩
    simp only [impl_SumsOf.l0]
    have ha : acc.length = i := by rw [hacc, toSs_length]; simp
    rw [if_pos (by omega), impl_BlockAt_v hl, Option.bind_some, impl_SumOf_v (blockAt_byt hb s _) (by omega), Option.bind_some, if_pos (by omega), wnat (by omega)]
    refine ih k (i + 1) _ (by omega) (by omega) ?_
    rw [hacc, List.range_succ, List.map_append]
    simp [toSs, toS]
theorem impl_SumsOf_v {k : Nat} {l : List Int} (hb : Byt l) (hl : l.length ≤ 140737488351232) (s : Int) (hk : 100 < k) : impl_SumsOf.f k l s = some (toSs (sumsOf l s)) := by
  unfold impl_SumsOf.f sumsOf
  have hbl := blocks_le s (l.length : Int)
  obtain ⟨n, hn⟩ := Int.eq_ofNat_of_zero_le hbl.1
  have h := impl_SumsOf_l l hb hl s n hn n k 0 [] (by omega) (by omega) (by simp [toSs])
  rw [impl_Blocks_v, Option.bind_some, hn, Int.toNat_natCast]
  exact h

theorem impl_ManOf_v {k : Nat} (g : Int) {l : List Int} (hb : Byt l) (hl : l.length ≤ 140737488351232) (s : Int) (hk : 100 < k) : impl_ManOf.f k g l s = some ((manOf g l s).1, (manOf g l s).2.1, (manOf g l s).2.2.1, toSs (manOf g l s).2.2.2) := by
  unfold impl_ManOf.f manOf
  rw [impl_within_v, Option.bind_some]
  by_cases h : 1 ≤ g ∧ g ≤ 1000000
  · rw [decide_eq_true h, if_pos rfl, impl_SizeOk_v, Option.bind_some]
    by_cases h2 : sizeOk s (l.length : Int) = true
    · rw [if_pos h2, impl_SumsOf_v hb hl s hk, if_pos ⟨h.1, h.2, h2⟩]; rfl
    · rw [if_neg h2, if_neg (fun e => h2 e.2.2)]; rfl
  · rw [decide_eq_false h, if_neg (by decide), if_neg (fun e => h ⟨e.1, e.2.1⟩)]; rfl

theorem impl_Sum_l (a b : List S81) (hab : a.length = b.length) (hl : a.length ≤ 140737488355328) (d : Nat) : ∀ (k : Nat) (i : Nat), i ≤ a.length → a.length - i = d → d < k →
    impl_Sum.l0 k a b (a.length : Int) (i : Int) = some (decide (a.drop i = b.drop i)) := by
  induction d with
  | zero =>
    intro k i hi hd hk
    obtain ⟨k, rfl⟩ : ∃ m, k = m + 1 := ⟨k - 1, by omega⟩
    simp only [impl_Sum.l0]
    rw [if_neg (by omega)]
    have e : a.drop i = b.drop i := by rw [List.drop_eq_nil_of_le (by omega), List.drop_eq_nil_of_le (by omega)]
    rw [decide_eq_true e]
  | succ d ih =>
    intro k i hi hd hk
    obtain ⟨k, rfl⟩ : ∃ m, k = m + 1 := ⟨k - 1, by omega⟩
    simp only [impl_Sum.l0]
    rw [if_pos (by omega), if_pos (by omega), if_pos (by omega), if_pos (by omega), wnat (by omega), rd_S (by omega : i < a.length), rd_S (by omega : i < b.length), ih k (i + 1) (by omega) (by omega) (by omega)]
    have e := drop_eq_iffS (a := a) (b := b) (i := i) (by omega) (by omega)
    by_cases h : a[i]'(by omega) = b[i]'(by omega)
    · rw [if_neg (by rw [h]; simp)]; simp only [e, h, true_and]
    · rw [if_pos]
      · simp only [e, h, false_and, decide_false]
      · have h' : ¬ ((a[i]'(by omega)).f0 = (b[i]'(by omega)).f0 ∧ (a[i]'(by omega)).f1 = (b[i]'(by omega)).f1) := fun g => h (S_eq_iff.1 (Prod.ext g.1 g.2))
        by_cases g : (a[i]'(by omega)).f0 = (b[i]'(by omega)).f0
        · have g2 : ¬ (a[i]'(by omega)).f1 = (b[i]'(by omega)).f1 := fun z => h' ⟨g, z⟩
          simp [g, g2]
        · simp [g]
theorem impl_Sum_v {k : Nat} {a b : List S81} (hl : a.length ≤ 140737488355328) (hk : a.length < k) : impl_Sum.f k a b = some (decide (a = b)) := by
  unfold impl_Sum.f
  by_cases h : a.length = b.length
  · rw [if_pos (by omega)]
    exact impl_Sum_l a b h hl a.length k 0 (by omega) (by omega) hk
  · rw [if_neg (by omega)]
    have : a ≠ b := fun e => h (by rw [e])
    simp [this]

theorem impl_SameMan_v {k : Nat} {a b c a' b' c' : Int} {l l' : List S81} (hl : l.length ≤ 140737488355328) (hk : l.length < k) : impl_SameMan.f k a b c l a' b' c' l' = some (decide ((a, b, c, l) = (a', b', c', l'))) := by
  unfold impl_SameMan.f
  rw [impl_Sum_v hl hk]
  by_cases h1 : a = a'
  · by_cases h2 : b = b'
    · by_cases h3 : c = c'
      · by_cases h4 : l = l'
        · simp [h1, h2, h3, h4]
        · simp [h1, h2, h3, h4]
      · simp [h1, h2, h3]
    · simp [h1, h2]
  · simp [h1]

theorem impl_Tells_v {k : Nat} (a b c : Int) (l : List S81) {m : List Int} (hb : Byt m) (hl : m.length ≤ 140737488351232) (hk : 100 < k) : impl_Tells.f k a b c l m = some (decide ((m.length : Int) = c ∧ toSs (sumsOf m b) = l)) := by
  unfold impl_Tells.f
  by_cases h : (m.length : Int) = c
  · have hs : (toSs (sumsOf m b)).length ≤ 40 := by
      have := sumsOf_length m b
      have := blocks_le b (m.length : Int)
      rw [toSs_length]; omega
    rw [if_pos h, impl_SumsOf_v hb hl b hk, Option.bind_some, impl_Sum_v (by omega) (by omega), Option.bind_some]
    simp [h]
  · rw [if_neg h]; simp [h]

theorem spec_l6Image_x {k : Nat} {b : List Int} {i : Int} (hc : Cur b i) (h : Int) (hk : 2000 < k) : ∃ r i' h', spec_l6Image.f k b i h = some (r, i', h') ∧ Byt r ∧ r.length ≤ 16 ∧ Cur b i' := by
  unfold spec_l6Image.f
  obtain ⟨r, i', h', e, rb, rl, c⟩ := spec_l3Bytes_x (k := k) hc h (by omega : (0 : Int) ≤ 16) (by omega) hk
  rw [e, Option.bind_some]
  exact ⟨_, _, _, rfl, rb, by first | omega | (dsimp only; omega), c⟩

theorem spec_l7Old_x {k : Nat} {b : List Int} {i : Int} (hc : Cur b i) (h : Int) {l : List Int} (hb : Byt l) (hl : l.length ≤ 16) (hk : 2000 < k) : ∃ r i' h', spec_l7Old.f k b i h l = some (r, i', h') ∧ Byt r ∧ r.length ≤ 20 ∧ Cur b i' := by
  unfold spec_l7Old.f
  obtain ⟨r, i1, h1, e1, r0, _, r2, c1⟩ := spec_l1Below_x hc h 5
  rw [e1]
  simp only [Option.bind_some, List.length_nil, List.nil_append]
  by_cases q0 : r = 0
  · obtain ⟨x, i2, h2, e2, xb, xl, c2⟩ := spec_l3Bytes_x (k := k) c1 h1 (by omega : (0 : Int) ≤ 16) (by omega) hk
    rw [if_pos q0, e2]
    simp only [Option.bind_some]
    exact ⟨_, _, _, rfl, xb, by omega, c2⟩
  · rw [if_neg q0]
    by_cases q1 : r = 1
    · rw [if_pos q1, if_pos (by omega)]
      exact ⟨_, _, _, rfl, hb, by omega, c1⟩
    · rw [if_neg q1]
      by_cases q2 : r = 2
      · rw [if_pos q2, w64 (by omega) (by omega)]
        obtain ⟨s, i2, h2, e2, s0, _, s2, c2⟩ := spec_l1Below_x c1 h1 ((l.length : Int) + 1)
        have := s2 (by omega)
        rw [e2]
        simp only [Option.bind_some]
        rw [if_pos s0, if_pos (by omega), if_pos (by simp; omega), if_pos (by simp; omega)]
        refine ⟨_, _, _, rfl, ?_, by simp; omega, c2⟩
        exact byt_append (byt_append (by intro x hx; simp at hx; omega) (byt_drop hb _)) (byt_take hb _)
      · rw [if_neg q2]
        by_cases q3 : r = 3
        · rw [if_pos q3]
          exact ⟨_, _, _, rfl, byt_nil, by simp, c1⟩
        · rw [if_neg q3]
          obtain ⟨x, i2, h2, e2, xb, xl, c2⟩ := spec_l3Bytes_x (k := k) c1 h1 (by omega : (0 : Int) ≤ 3) (by omega) hk
          rw [e2]
          simp only [Option.bind_some]
          obtain ⟨y, i3, h3, e3, yb, yl, c3⟩ := spec_l1Bent_x c2 h2 hb (by omega)
          rw [e3]
          simp only [Option.bind_some]
          rw [if_pos (by omega)]
          exact ⟨_, _, _, rfl, byt_append xb yb, by simp; omega, c3⟩

theorem spec_DrawOld_x {k : Nat} {b : List Int} (hb : b.length ≤ 1048576) (hk : 1049000 < k) : ∃ x y s, spec_DrawOld.f k b = some (x, y, s) ∧ Byt x ∧ Byt y ∧ x.length ≤ 20 ∧ y.length ≤ 16 ∧ 2 ≤ s ∧ s ≤ 6 := by
  unfold spec_DrawOld.f
  obtain ⟨h, e⟩ := spec_l1New_x (k := k) hb (by omega)
  obtain ⟨y, i1, h1, e1, yb, yl, c1⟩ := spec_l6Image_x (k := k) (cur_start hb) h (by omega)
  obtain ⟨x, i2, h2, e2, xb, xl, c2⟩ := spec_l7Old_x (k := k) c1 h1 yb yl (by omega)
  obtain ⟨r, i3, h3, e3, r0, _, r2, c3⟩ := spec_l1Below_x c2 h2 5
  have := r2 (by omega)
  simp only [e, e1, e2, e3, Option.bind_some]
  rw [w64 (by omega) (by omega)]
  exact ⟨_, _, _, rfl, xb, yb, xl, yl, by omega, by omega⟩

theorem spec_l1Odd_x {b : List Int} {i : Int} (hc : Cur b i) (h : Int) : ∃ r i' h', spec_l1Odd.f b i h = some (r, i', h') ∧ Cur b i' := by
  unfold spec_l1Odd.f
  obtain ⟨r, i', h', e, _, c⟩ := spec_l1Int_x hc h (l := [(-1), 0, 1, 2, 255, 256, 65535, 2147483647, 2147483648, 4294967295, 4294967296, (-2147483648), 9223372036854775807, (-9223372036854775808)]) (by decide)
  rw [e, Option.bind_some]
  exact ⟨_, _, _, rfl, c⟩
theorem spec_l1Raw_x {b : List Int} {i : Int} (hc : Cur b i) (h : Int) : ∃ r i' h', spec_l1Raw.f b i h = some (r, i', h') ∧ Cur b i' := by
  unfold spec_l1Raw.f
  obtain ⟨o, i1, h1, e1, c1⟩ := spec_l1Once_x hc h 2
  rw [e1, Option.bind_some]
  cases o with
  | true =>
    obtain ⟨r, i2, h2, e2, c2⟩ := spec_l1Odd_x c1 h1
    simp only [if_true, e2, Option.bind_some]
    exact ⟨_, _, _, rfl, c2⟩
  | false =>
    obtain ⟨r, i2, h2, e2, _, c2⟩ := spec_l1Int_x c1 h1 (l := [(-1), 1000000000000, 1000000000001]) (by decide)
    simp only [Bool.false_eq_true, if_false, e2, Option.bind_some]
    exact ⟨_, _, _, rfl, c2⟩
theorem spec_DrawSlice_j {k : Nat} {b : List Int} {x : List Int} (xb : Byt x) (xl : x.length ≤ 8) (a n i h : Int) (hc : Cur b i) : ∃ y p q, spec_DrawSlice.j0 (k + 1) x a n b i h = some (y, p, q) ∧ Byt y ∧ y.length ≤ 8 := by
  simp only [spec_DrawSlice.j0]
  obtain ⟨o, i1, h1, e1, c1⟩ := spec_l1Once_x hc h 6
  rw [e1, Option.bind_some]
  cases o with
  | true =>
    obtain ⟨r, i2, h2, e2, c2⟩ := spec_l1Raw_x c1 h1
    simp only [if_true, e2, Option.bind_some]
    exact ⟨_, _, _, rfl, xb, xl⟩
  | false =>
    simp only [Bool.false_eq_true, if_false]
    exact ⟨_, _, _, rfl, xb, xl⟩
theorem spec_DrawSlice_x {k : Nat} {b : List Int} (hb : b.length ≤ 1048576) (hk : 1049000 < k) : ∃ x a n, spec_DrawSlice.f k b = some (x, a, n) ∧ Byt x ∧ x.length ≤ 8 := by
  unfold spec_DrawSlice.f
  obtain ⟨h, e⟩ := spec_l1New_x (k := k) hb (by omega)
  obtain ⟨r, i1, h1, e1, r0, _, r2, c1⟩ := spec_l1Below_x (cur_start hb) h 8
  have := r2 (by omega)
  obtain ⟨x, i2, h2, e2, xb, xl, c2⟩ := spec_l1Bytes_x (k := k) c1 h1 r0 (by omega) (by omega)
  obtain ⟨a, i3, h3, e3, _, _, _, c3⟩ := spec_l1Below_x c2 h2 (wrap64 ((x.length : Int) + 2))
  obtain ⟨n, i4, h4, e4, _, _, _, c4⟩ := spec_l1Below_x c3 h3 5
  obtain ⟨o, i5, h5, e5, c5⟩ := spec_l1Once_x c4 h4 6
  have fin := fun a n i h hc => spec_DrawSlice_j (k := k - 1) (b := b) xb (by omega : x.length ≤ 8) a n i h hc
  rw [show k - 1 + 1 = k from by omega] at fin
  rw [e, Option.bind_some, e1, Option.bind_some, e2, Option.bind_some, e3, Option.bind_some, e4, Option.bind_some, e5, Option.bind_some]
  cases o with
  | true =>
    obtain ⟨r, i6, h6, e6, c6⟩ := spec_l1Raw_x c5 h5
    simp only [if_true, e6, Option.bind_some]
    exact fin _ _ _ _ c6
  | false =>
    simp only [Bool.false_eq_true, if_false]
    exact fin _ _ _ _ c5

theorem block_get {l : List Int} {s : Int} (hs : sizeOk s (l.length : Int) = true) (j : Nat) (hj : j < l.length) (i : Nat) (hi : (i : Int) = (j : Int) / s) :
    (i : Int) < blocks s (l.length : Int) ∧ (blockAt l s (i : Int)).1.length ≤ 6 ∧ (blockAt l s (i : Int)).1[j - ((i : Int) * s).toNat]? = l[j]? := by
  obtain ⟨g0, g1, g2, g3⟩ := sizeOk_iff.1 hs
  have hb : blocks s (l.length : Int) = ((l.length : Int) + s - 1) / s := by unfold blocks; rw [if_pos hs]
  have hA : 0 ≤ (i : Int) * s ∧ (i : Int) * s ≤ j ∧ (j : Int) < (i : Int) * s + s ∧ (i : Int) ≤ ((l.length : Int) + s - 1) / s - 1 := by
    rcases size_cases g0 g1 with rfl | rfl | rfl | rfl | rfl <;> refine ⟨by omega, by omega, by omega, by omega⟩
  obtain ⟨a0, a1, a2, a3⟩ := hA
  have hsp : spanOf s (l.length : Int) (i : Int) = ((i : Int) * s, mn s ((l.length : Int) - (i : Int) * s)) := by unfold spanOf; rw [if_pos ⟨by omega, by omega⟩]
  generalize (i : Int) * s = A at *
  have hw : 1 ≤ mn s ((l.length : Int) - A) ∧ mn s ((l.length : Int) - A) ≤ 6 ∧ A + mn s ((l.length : Int) - A) ≤ (l.length : Int) ∧ (j : Int) < A + mn s ((l.length : Int) - A) := by
    unfold mn; split <;> omega
  unfold blockAt
  rw [hsp]
  dsimp only
  generalize mn s ((l.length : Int) - A) = w at *
  rw [if_neg (by omega)]
  refine ⟨by omega, by simp; omega, ?_⟩
  dsimp only
  rw [List.getElem?_drop, List.getElem?_take, if_pos (by omega), show A.toNat + (j - A.toNat) = j from by omega]
theorem sumsOf_get {l : List Int} {s : Int} {i : Nat} (h : (i : Int) < blocks s (l.length : Int)) : (sumsOf l s)[i]? = some (sumOf (blockAt l s (i : Int)).1) := by
  unfold sumsOf
  rw [List.getElem?_map, List.getElem?_range (by omega)]; rfl
theorem sumsOf_inj {l m : List Int} (hl : Byt l) (hm : Byt m) {s : Int} (hs : sizeOk s (l.length : Int) = true) (hn : l.length = m.length) (h : sumsOf l s = sumsOf m s) : l = m := by
  obtain ⟨g0, g1, _, _⟩ := sizeOk_iff.1 hs
  refine ext_all rfl hn.symm (fun j hj => ?_)
  obtain ⟨i, hi⟩ : ∃ i : Nat, (i : Int) = (j : Int) / s := ⟨((j : Int) / s).toNat, by
    have : 0 ≤ (j : Int) / s := Int.ediv_nonneg (by omega) (by omega)
    omega⟩
  obtain ⟨x1, x2, x3⟩ := block_get hs j hj i hi
  obtain ⟨y1, y2, y3⟩ := block_get (l := m) (by rw [← hn]; exact hs) j (by omega) i hi
  have e1 := sumsOf_get x1
  rw [h, sumsOf_get y1] at e1
  have e2 := Option.some.inj e1
  unfold sumOf at e2
  rw [if_pos x2, if_pos y2] at e2
  have e3 := sumS_inj (blockAt_byt hm s _) (blockAt_byt hl s _) (congrArg Prod.snd e2)
  rw [← x3, ← y3, e3]
theorem FnManApart : laws_FnManApart.Pure := by
  intro l hm hr hw
  refine exists_ge 1050000 _ (fun k hk => ?_)
  unfold laws_FnManApart.f
  rw [laws_big_v, Option.bind_some]
  by_cases hbig : (l.length : Int) > 1048576
  · rw [if_pos (decide_eq_true hbig)]
  · rw [if_neg (by simpa using hbig)]
    obtain ⟨x, y, s, e1, xb, yb, xl, yl, s0, s1⟩ := spec_DrawOld_x (k := k) (b := l) (by omega) (by omega)
    obtain ⟨c, a, n, e2, cb, cl⟩ := spec_DrawSlice_x (k := k) (b := l) (by omega) (by omega)
    simp only [e1, e2, Option.bind_some]
    have hsl := sliceB_length c a n
    rw [impl_Slice_v (by omega), Option.bind_some, spec_Slice_v (by omega), Option.bind_some, laws_same_v (by omega) (by omega)]
    simp only [Option.bind_some, decide_true, if_true, bne_self_eq_false, Bool.false_eq_true, if_false]
    have hx : sizeOk s (x.length : Int) = true := sizeOk_iff.2 ⟨by omega, by omega, by omega, by omega⟩
    have hy : sizeOk s (y.length : Int) = true := sizeOk_iff.2 ⟨by omega, by omega, by omega, by omega⟩
    rw [impl_SizeOk_v, Option.bind_some, hx]
    obtain ⟨k, rfl⟩ : ∃ m, k = m + 1 := ⟨k - 1, by omega⟩
    simp only [laws_FnManApart.j0, Bool.not_true, Bool.false_eq_true, if_false]
    have mx : manOf 1 x s = (1, s, (x.length : Int), sumsOf x s) := by unfold manOf; rw [if_pos ⟨by omega, by omega, hx⟩]
    have my : manOf 1 y s = (1, s, (y.length : Int), sumsOf y s) := by unfold manOf; rw [if_pos ⟨by omega, by omega, hy⟩]
    have lx := sumsOf_length x s
    have ly := sumsOf_length y s
    have bx := blocks_le s (x.length : Int)
    have bY := blocks_le s (y.length : Int)
    have tx : (toSs (sumsOf x s)).length = (sumsOf x s).length := toSs_length _
    have ty : (toSs (sumsOf y s)).length = (sumsOf y s).length := toSs_length _
    rw [impl_ManOf_v 1 xb (by omega) s (by omega), impl_ManOf_v 1 yb (by omega) s (by omega), mx, my]
    simp only [Option.bind_some]
    rw [impl_SameMan_v (by omega) (by omega), laws_same_v (by omega) (by omega), impl_Tells_v _ _ _ _ xb (by omega) (by omega)]
    simp only [Option.bind_some]
    have inj : x.length = y.length → toSs (sumsOf x s) = toSs (sumsOf y s) → x = y := fun h1 h2 => sumsOf_inj xb yb hx h1 (toSs_inj h2)
    by_cases hxy : x = y
    · subst hxy; simp
    · have n1 : ¬ (((1 : Int), s, (x.length : Int), toSs (sumsOf x s)) = (1, s, (y.length : Int), toSs (sumsOf y s))) := by
        intro h
        simp only [Prod.mk.injEq, true_and] at h
        exact hxy (inj (by omega) h.2)
      have n2 : ¬ ((x.length : Int) = (y.length : Int) ∧ toSs (sumsOf x s) = toSs (sumsOf y s)) := fun h => hxy (inj (by omega) h.2)
      rw [decide_eq_false n1, decide_eq_false n2, decide_eq_false hxy]
      simp

end Go.Proofs.Ytfmhhjlhaklljaa.Pure
