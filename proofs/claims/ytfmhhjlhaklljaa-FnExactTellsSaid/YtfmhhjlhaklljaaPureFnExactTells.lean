/- Tells returns what the reference's Tells returns, in memory of its own, and leaves its arguments as they were, for all arguments; no condition. -/
import Derived.Test.YtfmhhjlhaklljaaPFnExactTellsx7
import Derived.Test.YtfmhhjlhaklljaaLib
set_option linter.unusedVariables false
set_option linter.unusedSimpArgs false
namespace Go.Proofs.Ytfmhhjlhaklljaa.Pure
open Go.RowKit Go.Proofs.Ytfmhhjlhaklljaa.PFnExactTells Go.Proofs.YtfmhhjlhaklljaaW.PrintWords Go.Proofs.YtfmhhjlhaklljaaW.PrintLast Go.Proofs.YtfmhhjlhaklljaaW.PrintMore Go.Proofs.Ytfmhhjlhaklljaa.Lib

instance : DecidableEq S81 := fun a b => decidable_of_iff (a.f0 = b.f0 ∧ a.f1 = b.f1) ⟨fun h => by cases a; cases b; simp_all, fun h => by rw [h]; exact ⟨rfl, rfl⟩⟩
def toS (p : Int × Int) : S81 := ⟨p.1, p.2⟩
def toSs (l : List (Int × Int)) : List S81 := l.map toS
theorem toS_inj {p q : Int × Int} (h : toS p = toS q) : p = q := by
  have h1 := congrArg S81.f0 h
  have h2 := congrArg S81.f1 h
  exact Prod.ext h1 h2
theorem toSs_inj {l m : List (Int × Int)} (h : toSs l = toSs m) : l = m := (List.map_inj_right (fun p q hq => toS_inj hq)).1 h
theorem toSs_length (l : List (Int × Int)) : (toSs l).length = l.length := by simp [toSs]
theorem toSs_onto (l : List S81) : ∃ m, l = toSs m ∧ m.length = l.length := ⟨l.map fun s => (s.f0, s.f1), by
  induction l with
  | nil => rfl
  | cons s l ih => simp only [List.map_cons, toSs] at ih ⊢; rw [← ih]; rfl, by simp⟩
theorem rd_S {l : List S81} {i : Nat} (h : i < l.length) : rd_T81 l (i : Int) = l[i] := by
  unfold rd_T81
  rw [Int.toNat_natCast, List.getD_eq_getElem?_getD, List.getElem?_eq_getElem h]; rfl
theorem drop_eq_iffS {a b : List S81} {i : Nat} (ha : i < a.length) (hb : i < b.length) : (a.drop i = b.drop i) ↔ (a[i] = b[i] ∧ a.drop (i + 1) = b.drop (i + 1)) := by
  rw [List.drop_eq_getElem_cons ha, List.drop_eq_getElem_cons hb, List.cons.injEq]
theorem S_eq_iff {a b : S81} : (a.f0, a.f1) = (b.f0, b.f1) ↔ a = b := by cases a; cases b; simp

def ofL (s : S105) : Int × Int := (s.f0, s.f1)
def ofLs (l : List S105) : List (Int × Int) := l.map ofL
theorem ofLs_length (l : List S105) : (ofLs l).length = l.length := by simp [ofLs]
theorem rd_L {l : List S105} {i : Nat} (h : i < l.length) : rd_T105 l (i : Int) = l[i] := by
  unfold rd_T105
  rw [Int.toNat_natCast, List.getD_eq_getElem?_getD, List.getElem?_eq_getElem h]; rfl

theorem spec_l1In_v (a b c : Int) : spec_l1In.f a b c = some (decide (b ≤ a ∧ a ≤ c)) := by
  unfold spec_l1In.f
  by_cases h : b ≤ a
  · rw [if_pos h]; simp [h]
  · rw [if_neg h]; simp [h]

theorem impl_within_v (a b c : Int) : impl_within.f a b c = some (decide (b ≤ a ∧ a ≤ c)) := by
  unfold impl_within.f
  by_cases h : b ≤ a
  · rw [if_pos h]; simp [h]
  · rw [if_neg h]; simp [h]

theorem laws_toByteS_l (l : List Int) (hl : l.length ≤ 140737488351232) (d : Nat) : ∀ (k : Nat) (out : List Int) (i : Nat), out.length = l.length → i ≤ l.length → l.length - i = d → d < k →
    (∀ j, j < i → out[j]? = l[j]?) → laws_toByteS.l0 k l out (i : Int) = some l := by
  induction d with
  | zero =>
    intro k out i ho hi hd hk hj
    obtain ⟨k, rfl⟩ : ∃ m, k = m + 1 := ⟨k - 1, by omega⟩
    simp only [laws_toByteS.l0]
    rw [if_neg (by omega)]
    congr 1
    apply List.ext_getElem?
    intro j
    by_cases hjl : j < i
    · exact hj j hjl
    · rw [List.getElem?_eq_none (by omega), List.getElem?_eq_none (by omega)]
  | succ d ih =>
    intro k out i ho hi hd hk hj
    obtain ⟨k, rfl⟩ : ∃ m, k = m + 1 := ⟨k - 1, by omega⟩
    simp only [laws_toByteS.l0]
    rw [if_pos (by omega), if_pos (by omega), if_pos (by omega), wnat (by omega), rd_at (by omega : i < l.length)]
    refine ih k _ (i + 1) (by simp [ho]) (by omega) (by omega) (by omega) (fun j h => ?_)
    rw [Int.toNat_natCast, List.getElem?_set]
    by_cases e : i = j
    · subst e; rw [if_pos rfl, if_pos (by omega), List.getElem?_eq_getElem]
    · rw [if_neg e]; exact hj j (by omega)
theorem laws_toByteS_v {k : Nat} {l : List Int} (hl : l.length ≤ 140737488351232) (hk : l.length < k) : laws_toByteS.f k l = some l := by
  unfold laws_toByteS.f
  rw [if_pos (by omega), if_pos (by omega)]
  exact laws_toByteS_l l hl l.length k _ 0 (by simp) (by omega) (by omega) hk (fun j h => by omega)

theorem laws_eqByteS_l (a b : List Int) (hab : a.length = b.length) (hl : a.length ≤ 140737488355328) (d : Nat) : ∀ (k : Nat) (i : Nat), i ≤ a.length → a.length - i = d → d < k →
    laws_eqByteS.l0 k a b (i : Int) = some (decide (a.drop i = b.drop i)) := by
  induction d with
  | zero =>
    intro k i hi hd hk
    obtain ⟨k, rfl⟩ : ∃ m, k = m + 1 := ⟨k - 1, by omega⟩
    simp only [laws_eqByteS.l0]
    rw [if_neg (by omega), List.drop_eq_nil_of_le (by omega), List.drop_eq_nil_of_le (by omega)]
    rfl
  | succ d ih =>
    intro k i hi hd hk
    obtain ⟨k, rfl⟩ : ∃ m, k = m + 1 := ⟨k - 1, by omega⟩
    simp only [laws_eqByteS.l0]
    rw [if_pos (by omega), if_pos (by omega), if_pos (by omega), wnat (by omega), rd_at (by omega : i < a.length), rd_at (by omega : i < b.length), ih k (i + 1) (by omega) (by omega) (by omega)]
    have e := drop_eq_iff (a := a) (b := b) (i := i) (by omega) (by omega)
    by_cases h : a[i]'(by omega) = b[i]'(by omega)
    · rw [if_pos h]; simp only [e, h, true_and]
    · rw [if_neg h]; simp only [e, h, false_and, decide_false]
theorem laws_eqByteS_v {k : Nat} {a b : List Int} (hl : a.length ≤ 140737488355328) (hk : a.length < k) : laws_eqByteS.f k a b = some (decide (a = b)) := by
  unfold laws_eqByteS.f
  by_cases h : a.length = b.length
  · rw [if_pos (by omega)]
    exact laws_eqByteS_l a b h hl a.length k 0 (by omega) (by omega) hk
  · rw [if_neg (by omega)]
    have : a ≠ b := fun e => h (by rw [e])
    simp [this]

theorem impl_Wrap_v {a m : Int} (h0 : 1 ≤ m) (h1 : m ≤ 1000000000000) : impl_Wrap.f a m = some (a % m) := by
  unfold impl_Wrap.f
  rw [impl_within_v, Option.bind_some, decide_eq_true (by omega), if_pos rfl, if_neg (by omega)]
  have h2 : a.tmod m = a - m * a.tdiv m := by have := Int.mul_tdiv_add_tmod a m; omega
  have h3 : -m < a.tmod m ∧ a.tmod m < m := ⟨by have := Int.lt_tmod_of_pos a (by omega : 0 < m); omega, Int.tmod_lt_of_pos a (by omega)⟩
  rw [w64 (by omega) (by omega), tmod_nn (by omega), Int.add_emod_right, h2, Int.sub_mul_emod_self_left]

theorem impl_weak_v (x y : Int) : impl_weak.f x y = some (x % 251 + 251 * (y % 251)) := by
  unfold impl_weak.f
  rw [impl_Wrap_v (by omega) (by omega), impl_Wrap_v (by omega) (by omega)]
  simp only [Option.bind_some]
  rw [w64 (x := 251 * (y % 251)) (by omega) (by omega), w64 (by omega) (by omega)]

theorem spec_WeakOf_l (l : List Int) (hb : Byt l) (hl : l.length ≤ 140737488351232) (d : Nat) : ∀ (k : Nat) (i : Nat), i ≤ l.length → l.length - i = d → d < k →
    spec_WeakOf.l0 k l (sx (l.take i) % 251) (sy (l.take i) % 251) (i : Int) = some (weakOf l) := by
  induction d with
  | zero =>
    intro k i hi hd hk
    obtain ⟨k, rfl⟩ : ∃ m, k = m + 1 := ⟨k - 1, by omega⟩
    simp only [spec_WeakOf.l0]
    rw [if_neg (by omega), List.take_of_length_le (by omega), w64 (x := 251 * (sy l % 251)) (by omega) (by omega), w64 (by omega) (by omega)]
    rfl
  | succ d ih =>
    intro k i hi hd hk
    obtain ⟨k, rfl⟩ : ∃ m, k = m + 1 := ⟨k - 1, by omega⟩
    simp only [spec_WeakOf.l0]
    have hc := hb l[i] (List.getElem_mem (by omega))
    rw [if_pos (by omega), if_pos (by omega), wnat (by omega), rd_at (by omega : i < l.length), w64 (x := l[i]) (by omega) (by omega), w64 (by omega) (by omega), tmod_nn (by omega), w64 (by omega) (by omega), tmod_nn (by omega)]
    have e : l.take (i + 1) = l.take i ++ [l[i]] := List.take_succ_eq_append_getElem (by omega)
    have := ih k (i + 1) (by omega) (by omega) (by omega)
    rw [e, sx_snoc, sy_snoc] at this
    rw [show (sx (l.take i) % 251 + l[i]) % 251 = (sx (l.take i) + l[i]) % 251 from by omega, show (sy (l.take i) % 251 + (sx (l.take i) + l[i]) % 251) % 251 = (sy (l.take i) + sx (l.take i) + l[i]) % 251 from by omega]
    exact this
theorem spec_WeakOf_v {k : Nat} {l : List Int} (hb : Byt l) (hl : l.length ≤ 140737488351232) (hk : l.length < k) : spec_WeakOf.f k l = some (weakOf l) := by
  unfold spec_WeakOf.f
  exact spec_WeakOf_l l hb hl l.length k 0 (by omega) (by omega) hk

theorem impl_WeakOf_l (l : List Int) (hb : Byt l) (hl : l.length ≤ 140737488351232) (d : Nat) : ∀ (k : Nat) (i : Nat), i ≤ l.length → l.length - i = d → d < k →
    impl_WeakOf.l0 k (sx (l.take i) % 251) (sy (l.take i) % 251) l (l.length : Int) (i : Int) = some (weakOf l) := by
  induction d with
  | zero =>
    intro k i hi hd hk
    obtain ⟨k, rfl⟩ : ∃ m, k = m + 1 := ⟨k - 1, by omega⟩
    simp only [impl_WeakOf.l0]
    rw [if_neg (by omega), impl_weak_v, List.take_of_length_le (by omega)]
    simp only [Option.bind_some, weakOf, Int.emod_emod]
  | succ d ih =>
    intro k i hi hd hk
    obtain ⟨k, rfl⟩ : ∃ m, k = m + 1 := ⟨k - 1, by omega⟩
    simp only [impl_WeakOf.l0]
    have hc := hb l[i] (List.getElem_mem (by omega))
    rw [if_pos (by omega), if_pos (by omega), if_pos (by omega), wnat (by omega), rd_at (by omega : i < l.length), w64 (x := l[i]) (by omega) (by omega), w64 (by omega) (by omega), tmod_nn (by omega), w64 (by omega) (by omega), tmod_nn (by omega)]
    have e : l.take (i + 1) = l.take i ++ [l[i]] := List.take_succ_eq_append_getElem (by omega)
    have := ih k (i + 1) (by omega) (by omega) (by omega)
    rw [e, sx_snoc, sy_snoc] at this
    rw [show (sx (l.take i) % 251 + l[i]) % 251 = (sx (l.take i) + l[i]) % 251 from by omega, show (sy (l.take i) % 251 + (sx (l.take i) + l[i]) % 251) % 251 = (sy (l.take i) + sx (l.take i) + l[i]) % 251 from by omega]
    exact this
theorem impl_WeakOf_v {k : Nat} {l : List Int} (hb : Byt l) (hl : l.length ≤ 140737488351232) (hk : l.length < k) : impl_WeakOf.f k l = some (weakOf l) := by
  unfold impl_WeakOf.f
  exact impl_WeakOf_l l hb hl l.length k 0 (by omega) (by omega) hk

theorem spec_SizeOk_v (s n : Int) : spec_SizeOk.f s n = some (sizeOk s n) := by
  unfold spec_SizeOk.f sizeOk
  rw [spec_l1In_v]
  simp only [Option.bind_some]
  by_cases h : 2 ≤ s ∧ s ≤ 6
  · rw [decide_eq_true h, if_pos rfl, spec_l1In_v, w64 (by omega) (by omega)]
    simp [h]
  · rw [decide_eq_false h, if_neg (by decide)]
    have : ¬ (2 ≤ s ∧ s ≤ 6 ∧ 0 ≤ n ∧ n ≤ s * 40) := fun g => h ⟨g.1, g.2.1⟩
    rw [decide_eq_false this]

theorem impl_SizeOk_v (s n : Int) : impl_SizeOk.f s n = some (sizeOk s n) := by
  unfold impl_SizeOk.f sizeOk
  rw [impl_within_v]
  simp only [Option.bind_some]
  by_cases h : 2 ≤ s ∧ s ≤ 6
  · rw [decide_eq_true h, if_pos rfl, impl_within_v, Int.mul_comm 40 s, w64 (by omega) (by omega)]
    simp [h]
  · rw [decide_eq_false h, if_neg (by decide)]
    have : ¬ (2 ≤ s ∧ s ≤ 6 ∧ 0 ≤ n ∧ n ≤ s * 40) := fun g => h ⟨g.1, g.2.1⟩
    rw [decide_eq_false this]

theorem spec_CeilDiv_v {a b : Int} (h0 : 0 ≤ a) (h1 : a ≤ 1000000000000) (h2 : 1 ≤ b) (h3 : b ≤ 1000000000000) : spec_CeilDiv.f a b = some ((a + b - 1) / b) := by
  unfold spec_CeilDiv.f
  rw [spec_l1In_v, Option.bind_some, decide_eq_true (by omega), if_pos rfl, spec_l1In_v, Option.bind_some, decide_eq_true (by omega), if_pos rfl, if_neg (by omega), w64 (x := a + b) (by omega) (by omega), w64 (x := a + b - 1) (by omega) (by omega), tdiv_nn (by omega)]
  have h4 : 0 ≤ (a + b - 1) / b := Int.ediv_nonneg (by omega) (by omega)
  have h5 : (a + b - 1) / b ≤ a + b - 1 := Int.ediv_le_self _ (by omega)
  rw [w64 (by omega) (by omega)]

theorem impl_CeilDiv_v {a b : Int} (h0 : 0 ≤ a) (h1 : a ≤ 1000000000000) (h2 : 1 ≤ b) (h3 : b ≤ 1000000000000) : impl_CeilDiv.f a b = some ((a + b - 1) / b) := by
  unfold impl_CeilDiv.f
  rw [impl_within_v, Option.bind_some, decide_eq_true (by omega), if_pos rfl, impl_within_v, Option.bind_some, decide_eq_true (by omega), if_pos rfl, if_neg (by omega), w64 (x := a + b) (by omega) (by omega), w64 (x := a + b - 1) (by omega) (by omega), tdiv_nn (by omega)]
  have h4 : 0 ≤ (a + b - 1) / b := Int.ediv_nonneg (by omega) (by omega)
  have h5 : (a + b - 1) / b ≤ a + b - 1 := Int.ediv_le_self _ (by omega)
  rw [w64 (by omega) (by omega)]

theorem spec_Blocks_v (s n : Int) : spec_Blocks.f s n = some (blocks s n) := by
  unfold spec_Blocks.f blocks
  rw [spec_SizeOk_v, Option.bind_some]
  by_cases h : sizeOk s n = true
  · obtain ⟨h0, h1, h2, h3⟩ := sizeOk_iff.1 h
    rw [if_pos h, if_pos h, spec_CeilDiv_v (by omega) (by omega) (by omega) (by omega)]
    rfl
  · rw [if_neg h, if_neg h]

theorem impl_Blocks_v (s n : Int) : impl_Blocks.f s n = some (blocks s n) := by
  unfold impl_Blocks.f blocks
  rw [impl_SizeOk_v, Option.bind_some]
  by_cases h : sizeOk s n = true
  · obtain ⟨h0, h1, h2, h3⟩ := sizeOk_iff.1 h
    rw [if_pos h, if_pos h, impl_CeilDiv_v (by omega) (by omega) (by omega) (by omega)]
    rfl
  · rw [if_neg h, if_neg h]

theorem spec_Least_v (a b : Int) : spec_Least.f a b = some (mn a b) := by
  unfold spec_Least.f mn
  by_cases h : b < a
  · rw [if_pos h, if_pos h]
  · rw [if_neg h, if_neg h]

theorem spec_SpanOf_v (s n i : Int) : spec_SpanOf.f s n i = some (spanOf s n i) := by
  unfold spec_SpanOf.f spanOf
  rw [spec_Blocks_v, Option.bind_some, spec_l1In_v, Option.bind_some]
  have hb := blocks_le s n
  rw [w64 (x := blocks s n - 1) (by omega) (by omega)]
  by_cases h : 0 ≤ i ∧ i ≤ blocks s n - 1
  · obtain ⟨h0, h1, h2, h3, h4, h5, h6⟩ := span_in h.1 h.2
    rw [decide_eq_true h, if_pos rfl, if_pos h, spec_Least_v, Option.bind_some, w64 (x := i * s) (by omega) (by omega), w64 (by omega) (by omega)]
  · rw [decide_eq_false h, if_neg (by decide), if_neg h]

theorem impl_SpanOf_v (s n i : Int) : impl_SpanOf.f s n i = some (spanOf s n i) := by
  unfold impl_SpanOf.f spanOf
  rw [impl_Blocks_v, Option.bind_some, impl_within_v, Option.bind_some]
  have hb := blocks_le s n
  rw [w64 (x := blocks s n - 1) (by omega) (by omega)]
  by_cases h : 0 ≤ i ∧ i ≤ blocks s n - 1
  · obtain ⟨h0, h1, h2, h3, h4, h5, h6⟩ := span_in h.1 h.2
    rw [decide_eq_true h, if_pos rfl, if_pos h, w64 (x := i * s) (by omega) (by omega), w64 (by omega) (by omega)]
  · rw [decide_eq_false h, if_neg (by decide), if_neg h]

theorem impl_cloned_v {l : List Int} (hl : l.length ≤ 140737488351232) : impl_cloned.f l = some l := by
  unfold impl_cloned.f
  rw [if_pos (by omega), if_pos (by omega)]
  simp only [List.replicate_zero, Option.bind_some, List.nil_append, List.length_nil]
  rw [if_pos (by omega)]

theorem impl_Slice_v {l : List Int} (hl : l.length ≤ 140737488351232) (a n : Int) : impl_Slice.f l a n = some (sliceB l a n) := by
  unfold impl_Slice.f sliceB
  rw [impl_within_v, Option.bind_some]
  by_cases h0 : 0 ≤ a ∧ a ≤ (l.length : Int)
  · rw [decide_eq_true h0, if_pos rfl, impl_within_v, Option.bind_some, w64 (x := (l.length : Int) - a) (by omega) (by omega)]
    by_cases h1 : 0 ≤ n ∧ n ≤ (l.length : Int) - a
    · rw [decide_eq_true h1, if_pos rfl, w64 (x := a + n) (by omega) (by omega), if_pos (by omega), if_pos (by omega), if_pos (by omega), impl_cloned_v (by simp; omega), if_pos ⟨by omega, by omega, by omega, by omega⟩]
      rfl
    · rw [decide_eq_false h1, if_neg (by decide), if_neg (by omega)]
  · rw [decide_eq_false h0, if_neg (by decide), if_neg (by omega)]

theorem spec_SumOf_l (l : List Int) (hb : Byt l) (hl : l.length ≤ 6) (d : Nat) : ∀ (k : Nat) (i : Nat), i ≤ l.length → l.length - i = d → d + 10 < k → spec_SumOf.l0 k l (sumS (l.take i)) (i : Int) = some (weakOf l, sumS l) := by
  induction d with
  | zero =>
    intro k i hi hd hk
    obtain ⟨k, rfl⟩ : ∃ m, k = m + 1 := ⟨k - 1, by omega⟩
    simp only [spec_SumOf.l0]
    rw [if_neg (by omega), spec_WeakOf_v hb (by omega) (by omega), List.take_of_length_le (by omega)]; rfl
  | succ d ih =>
    intro k i hi hd hk
    obtain ⟨k, rfl⟩ : ∃ m, k = m + 1 := ⟨k - 1, by omega⟩
    simp only [spec_SumOf.l0]
    have hc := hb l[i] (List.getElem_mem (by omega))
    have h1 := sumS_small (l := l.take i) (byt_take hb i) (by simp; omega)
    rw [if_pos (by omega), if_pos (by omega), wnat (by omega), rd_at (by omega : i < l.length), w64 (x := 256 * sumS (l.take i)) (by omega) (by omega), w64 (x := l[i]) (by omega) (by omega), w64 (by omega) (by omega)]
    have e : l.take (i + 1) = l.take i ++ [l[i]] := List.take_succ_eq_append_getElem (by omega)
    have := ih k (i + 1) (by omega) (by omega) (by omega)
    rw [e, sumS_snoc, Int.mul_comm] at this
    exact this
theorem spec_SumOf_v {k : Nat} {l : List Int} (hb : Byt l) (hk : 20 < k) : spec_SumOf.f k l = some (sumOf l) := by
  unfold spec_SumOf.f sumOf
  by_cases h : l.length ≤ 6
  · rw [if_neg (by omega), if_pos h]
    exact spec_SumOf_l l hb h l.length k 0 (by omega) (by omega) (by omega)
  · rw [if_pos (by omega), if_neg h]

theorem impl_SumOf_l (l : List Int) (hb : Byt l) (hl : l.length ≤ 6) (d : Nat) : ∀ (k : Nat) (i : Nat), i ≤ l.length → l.length - i = d → d + 10 < k → impl_SumOf.l0 k l (sumS (l.take i)) l (l.length : Int) (i : Int) = some (weakOf l, sumS l) := by
  induction d with
  | zero =>
    intro k i hi hd hk
    obtain ⟨k, rfl⟩ : ∃ m, k = m + 1 := ⟨k - 1, by omega⟩
    simp only [impl_SumOf.l0]
    rw [if_neg (by omega), impl_WeakOf_v hb (by omega) (by omega), List.take_of_length_le (by omega)]; rfl
  | succ d ih =>
    intro k i hi hd hk
    obtain ⟨k, rfl⟩ : ∃ m, k = m + 1 := ⟨k - 1, by omega⟩
    simp only [impl_SumOf.l0]
    have hc := hb l[i] (List.getElem_mem (by omega))
    have h1 := sumS_small (l := l.take i) (byt_take hb i) (by simp; omega)
    rw [if_pos (by omega), if_pos (by omega), if_pos (by omega), wnat (by omega), rd_at (by omega : i < l.length), w64 (x := sumS (l.take i) * 256) (by omega) (by omega), w64 (x := l[i]) (by omega) (by omega), or_256 (by omega) (by omega) hc.1 hc.2]
    have e : l.take (i + 1) = l.take i ++ [l[i]] := List.take_succ_eq_append_getElem (by omega)
    have := ih k (i + 1) (by omega) (by omega) (by omega)
    rw [e, sumS_snoc] at this
    exact this
theorem impl_SumOf_v {k : Nat} {l : List Int} (hb : Byt l) (hk : 20 < k) : impl_SumOf.f k l = some (sumOf l) := by
  unfold impl_SumOf.f sumOf
  by_cases h : l.length ≤ 6
  · rw [if_neg (by omega), if_pos h]
    exact impl_SumOf_l l hb h l.length k 0 (by omega) (by omega) (by omega)
  · rw [if_pos (by omega), if_neg h]

theorem laws_eqSum_v (a b c d : Int) : laws_eqSum.f a b c d = some (decide ((a, b) = (c, d))) := by
  unfold laws_eqSum.f
  by_cases h : a = c
  · by_cases h' : b = d
    · rw [if_pos h, if_pos h']; simp [h, h']
    · rw [if_pos h, if_neg h']; simp [h']
  · rw [if_neg h]; simp [h]

theorem spec_BlockAt_v {l : List Int} (hl : l.length ≤ 140737488351232) (s i : Int) : spec_BlockAt.f l s i = some (blockAt l s i) := by
  unfold spec_BlockAt.f blockAt
  rw [spec_SpanOf_v, Option.bind_some]
  have hg := spanOf_range s (l.length : Int) i
  generalize spanOf s (l.length : Int) i = r at hg ⊢
  by_cases h : r.2 = 0
  · rw [if_pos h, if_pos h]
  · obtain ⟨g0, g1, g2⟩ := hg h
    rw [if_neg h, if_neg h, w64 (x := r.1 + r.2) (by omega) (by omega)]
    simp only [Option.bind_some, List.length_nil, List.nil_append]
    rw [if_pos (by omega), if_pos (by omega), if_pos (by omega), if_pos (by simp; omega)]

theorem impl_BlockAt_v {l : List Int} (hl : l.length ≤ 140737488351232) (s i : Int) : impl_BlockAt.f l s i = some (blockAt l s i) := by
  unfold impl_BlockAt.f blockAt
  rw [impl_SpanOf_v, Option.bind_some]
  have hg := spanOf_range s (l.length : Int) i
  generalize spanOf s (l.length : Int) i = r at hg ⊢
  by_cases h : r.2 = 0
  · rw [if_pos h, if_pos h]
  · obtain ⟨g0, g1, g2⟩ := hg h
    rw [if_neg h, if_neg h, impl_Slice_v hl, Option.bind_some]
    rw [sliceB_yes (by omega) (by omega) (by omega) (by omega)]

theorem spec_SumsOf_l (l : List Int) (hb : Byt l) (hl : l.length ≤ 140737488351232) (s : Int) (n : Nat) (hn : blocks s (l.length : Int) = (n : Int)) (d : Nat) : ∀ (k i : Nat) (acc : List S81), i + d = n → d + 30 < k →
    acc = toSs ((List.range i).map fun (j : Nat) => sumOf (blockAt l s (j : Int)).1) → spec_SumsOf.l0 k l s acc (i : Int) = some (toSs ((List.range n).map fun (j : Nat) => sumOf (blockAt l s (j : Int)).1)) := by
  have hbl := blocks_le s (l.length : Int)
  induction d with
  | zero =>
    intro k i acc hi hk hacc
    obtain ⟨k, rfl⟩ : ∃ m, k = m + 1 := ⟨k - 1, by omega⟩
    simp only [spec_SumsOf.l0]
    rw [spec_Blocks_v, Option.bind_some, hn, if_neg (by omega), hacc, show i = n from by omega]
  | succ d ih =>
    intro k i acc hi hk hacc
    obtain ⟨k, rfl⟩ : ∃ m, k = m + 1 := ⟨k - 1, by omega⟩
    simp only [spec_SumsOf.l0]
    have ha : acc.length = i := by rw [hacc, toSs_length]; simp
    rw [spec_Blocks_v, Option.bind_some, hn, if_pos (by omega), spec_BlockAt_v hl, Option.bind_some, spec_SumOf_v (blockAt_byt hb s _) (by omega), Option.bind_some, if_pos (by omega), wnat (by omega)]
    refine ih k (i + 1) _ (by omega) (by omega) ?_
    rw [hacc, List.range_succ, List.map_append]
    simp [toSs, toS]
theorem spec_SumsOf_v {k : Nat} {l : List Int} (hb : Byt l) (hl : l.length ≤ 140737488351232) (s : Int) (hk : 100 < k) : spec_SumsOf.f k l s = some (toSs (sumsOf l s)) := by
  unfold spec_SumsOf.f sumsOf
  have hbl := blocks_le s (l.length : Int)
  obtain ⟨n, hn⟩ := Int.eq_ofNat_of_zero_le hbl.1
  have h := spec_SumsOf_l l hb hl s n hn n k 0 [] (by omega) (by omega) (by simp [toSs])
  rw [hn, Int.toNat_natCast]
  exact h

theorem impl_SumsOf_l (l : List Int) (hb : Byt l) (hl : l.length ≤ 140737488351232) (s : Int) (n : Nat) (hn : blocks s (l.length : Int) = (n : Int)) (d : Nat) : ∀ (k i : Nat) (acc : List S81), i + d = n → d + 30 < k →
    acc = toSs ((List.range i).map fun (j : Nat) => sumOf (blockAt l s (j : Int)).1) → impl_SumsOf.l0 k l s acc (n : Int) (i : Int) = some (toSs ((List.range n).map fun (j : Nat) => sumOf (blockAt l s (j : Int)).1)) := by
  have hbl := blocks_le s (l.length : Int)
  induction d with
  | zero =>
    intro k i acc hi hk hacc
    obtain ⟨k, rfl⟩ : ∃ m, k = m + 1 := ⟨k - 1, by omega⟩
    simp only [impl_SumsOf.l0]
    rw [if_neg (by omega), hacc, show i = n from by omega]
  | succ d ih =>
    intro k i acc hi hk hacc
    obtain ⟨k, rfl⟩ : ∃ m, k = m + 1 := ⟨k - 1, by omega⟩
    simp only [impl_SumsOf.l0]
    have ha : acc.length = i := by rw [hacc, toSs_length]; simp
    rw [if_pos (by omega), impl_BlockAt_v hl, Option.bind_some, impl_SumOf_v (blockAt_byt hb s _) (by omega), Option.bind_some, if_pos (by omega), wnat (by omega)]
    refine ih k (i + 1) _ (by omega) (by omega) ?_
    rw [hacc, List.range_succ, List.map_append]
    simp [toSs, toS]
theorem impl_SumsOf_v {k : Nat} {l : List Int} (hb : Byt l) (hl : l.length ≤ 140737488351232) (s : Int) (hk : 100 < k) : impl_SumsOf.f k l s = some (toSs (sumsOf l s)) := by
  unfold impl_SumsOf.f sumsOf
  have hbl := blocks_le s (l.length : Int)
  obtain ⟨n, hn⟩ := Int.eq_ofNat_of_zero_le hbl.1
  have h := impl_SumsOf_l l hb hl s n hn n k 0 [] (by omega) (by omega) (by simp [toSs])
  rw [impl_Blocks_v, Option.bind_some, hn, Int.toNat_natCast]
  exact h

theorem laws_eqSumS_l (a b : List S81) (hab : a.length = b.length) (hl : a.length ≤ 140737488355328) (d : Nat) : ∀ (k : Nat) (i : Nat), i ≤ a.length → a.length - i = d → d < k →
    laws_eqSumS.l0 k a b (i : Int) = some (decide (a.drop i = b.drop i)) := by
  induction d with
  | zero =>
    intro k i hi hd hk
    obtain ⟨k, rfl⟩ : ∃ m, k = m + 1 := ⟨k - 1, by omega⟩
    simp only [laws_eqSumS.l0]
    rw [if_neg (by omega)]
    have e : a.drop i = b.drop i := by rw [List.drop_eq_nil_of_le (by omega), List.drop_eq_nil_of_le (by omega)]
    rw [decide_eq_true e]
  | succ d ih =>
    intro k i hi hd hk
    obtain ⟨k, rfl⟩ : ∃ m, k = m + 1 := ⟨k - 1, by omega⟩
    simp only [laws_eqSumS.l0]
    rw [if_pos (by omega), if_pos (by omega), if_pos (by omega), wnat (by omega), rd_S (by omega : i < a.length), rd_S (by omega : i < b.length), ih k (i + 1) (by omega) (by omega) (by omega), laws_eqSum_v, Option.bind_some]
    have e := drop_eq_iffS (a := a) (b := b) (i := i) (by omega) (by omega)
    by_cases h : a[i]'(by omega) = b[i]'(by omega)
    · rw [if_pos (decide_eq_true (S_eq_iff.2 h))]; simp only [e, h, true_and]
    · rw [if_neg (fun e2 => h (S_eq_iff.1 (of_decide_eq_true e2)))]; simp only [e, h, false_and, decide_false]
theorem laws_eqSumS_v {k : Nat} {a b : List S81} (hl : a.length ≤ 140737488355328) (hk : a.length < k) : laws_eqSumS.f k a b = some (decide (a = b)) := by
  unfold laws_eqSumS.f
  by_cases h : a.length = b.length
  · rw [if_pos (by omega)]
    exact laws_eqSumS_l a b h hl a.length k 0 (by omega) (by omega) hk
  · rw [if_neg (by omega)]
    have : a ≠ b := fun e => h (by rw [e])
    simp [this]

theorem laws_eqManifest_v {k : Nat} {a b c a' b' c' : Int} {l l' : List S81} (hl : l.length ≤ 140737488355328) (hk : l.length < k) : laws_eqManifest.f k a b c l a' b' c' l' = some (decide ((a, b, c, l) = (a', b', c', l'))) := by
  unfold laws_eqManifest.f
  rw [laws_eqSumS_v hl hk]
  by_cases h1 : a = a'
  · by_cases h2 : b = b'
    · by_cases h3 : c = c'
      · by_cases h4 : l = l'
        · simp [h1, h2, h3, h4]
        · simp [h1, h2, h3, h4]
      · simp [h1, h2, h3]
    · simp [h1, h2]
  · simp [h1]

theorem laws_toSum_v (a b : Int) : laws_toSum.f a b = some (a, b) := rfl

theorem laws_szSumS_v {l : List S105} {left : Int} (h0 : 0 ≤ left) (h1 : left ≤ 1048576) (hl : l.length ≤ maxLen) : laws_szSumS.f l left = some (if left - (l.length : Int) < 0 then -1 else left - (l.length : Int)) := by
  unfold laws_szSumS.f
  simp only [maxLen] at hl
  rw [w64 (by omega) (by omega)]
  by_cases h : left - (l.length : Int) < 0
  · rw [if_pos h, if_pos h]
  · rw [if_neg h, if_neg h]

theorem laws_szManifest_v (a b c : Int) {l : List S105} {left : Int} (h0 : 0 ≤ left) (h1 : left ≤ 1048576) (hl : l.length ≤ maxLen) : laws_szManifest.f a b c l left = some (if left - (l.length : Int) < 0 then -1 else left - (l.length : Int)) := by
  unfold laws_szManifest.f
  rw [laws_szSumS_v h0 h1 hl, Option.bind_some]
  by_cases h : left - (l.length : Int) < 0
  · rw [if_pos h, if_pos (by omega)]
  · rw [if_neg h, if_neg h]

theorem laws_toSumS_l (l : List S105) (hl : l.length ≤ 1048576) (d : Nat) : ∀ (k : Nat) (out : List S81) (i : Nat), out.length = l.length → i ≤ l.length → l.length - i = d → d < k →
    (∀ j, j < i → out[j]? = (toSs (ofLs l))[j]?) → laws_toSumS.l0 k l out (i : Int) = some (toSs (ofLs l)) := by
  have hml : (toSs (ofLs l)).length = l.length := by rw [toSs_length, ofLs_length]
  induction d with
  | zero =>
    intro k out i ho hi hd hk hj
    obtain ⟨k, rfl⟩ : ∃ m, k = m + 1 := ⟨k - 1, by omega⟩
    simp only [laws_toSumS.l0]
    rw [if_neg (by omega), ext_all ho hml (fun j h => hj j (by omega))]
  | succ d ih =>
    intro k out i ho hi hd hk hj
    obtain ⟨k, rfl⟩ : ∃ m, k = m + 1 := ⟨k - 1, by omega⟩
    simp only [laws_toSumS.l0]
    rw [if_pos (by omega), if_pos (by omega), laws_toSum_v, Option.bind_some, if_pos (by omega), wnat (by omega), rd_L (by omega : i < l.length), Int.toNat_natCast]
    refine ih k _ (i + 1) (by simp [ho]) (by omega) (by omega) (by omega) (set_step (by omega) hj ?_)
    rw [List.getElem?_eq_getElem (by omega)]
    simp [toSs, ofLs, ofL, toS]
theorem laws_toSumS_v {k : Nat} {l : List S105} (hl : l.length ≤ 1048576) (hk : l.length < k) : laws_toSumS.f k l = some (toSs (ofLs l)) := by
  unfold laws_toSumS.f
  rw [if_pos (by omega), if_pos (by omega)]
  exact laws_toSumS_l l hl l.length k _ 0 (by simp) (by omega) (by omega) hk (fun j h => by omega)

theorem laws_toManifest_v {k : Nat} (a b c : Int) {l : List S105} (hl : l.length ≤ 1048576) (hk : l.length < k) : laws_toManifest.f k a b c l = some (a, b, c, toSs (ofLs l)) := by
  unfold laws_toManifest.f
  rw [laws_toSumS_v hl hk]; rfl

theorem spec_l6SameSums_l (a b : List S81) (hab : a.length = b.length) (hl : a.length ≤ 140737488355328) (d : Nat) : ∀ (k : Nat) (i : Nat), i ≤ a.length → a.length - i = d → d < k →
    spec_l6SameSums.l0 k a b (i : Int) = some (decide (a.drop i = b.drop i)) := by
  induction d with
  | zero =>
    intro k i hi hd hk
    obtain ⟨k, rfl⟩ : ∃ m, k = m + 1 := ⟨k - 1, by omega⟩
    simp only [spec_l6SameSums.l0]
    rw [if_neg (by omega)]
    have e : a.drop i = b.drop i := by rw [List.drop_eq_nil_of_le (by omega), List.drop_eq_nil_of_le (by omega)]
    rw [decide_eq_true e]
  | succ d ih =>
    intro k i hi hd hk
    obtain ⟨k, rfl⟩ : ∃ m, k = m + 1 := ⟨k - 1, by omega⟩
    simp only [spec_l6SameSums.l0]
    rw [if_pos (by omega), if_pos (by omega), if_pos (by omega), wnat (by omega), rd_S (by omega : i < a.length), rd_S (by omega : i < b.length), ih k (i + 1) (by omega) (by omega) (by omega)]
    have e := drop_eq_iffS (a := a) (b := b) (i := i) (by omega) (by omega)
    by_cases h : a[i]'(by omega) = b[i]'(by omega)
    · rw [if_neg (by rw [h]; simp)]; simp only [e, h, true_and]
    · rw [if_pos]
      · simp only [e, h, false_and, decide_false]
      · have h' : ¬ ((a[i]'(by omega)).f0 = (b[i]'(by omega)).f0 ∧ (a[i]'(by omega)).f1 = (b[i]'(by omega)).f1) := fun g => h (S_eq_iff.1 (Prod.ext g.1 g.2))
        by_cases g : (a[i]'(by omega)).f0 = (b[i]'(by omega)).f0
        · have g2 : ¬ (a[i]'(by omega)).f1 = (b[i]'(by omega)).f1 := fun z => h' ⟨g, z⟩
          simp [g, g2]
        · simp [g]
theorem spec_l6SameSums_v {k : Nat} {a b : List S81} (hl : a.length ≤ 140737488355328) (hk : a.length < k) : spec_l6SameSums.f k a b = some (decide (a = b)) := by
  unfold spec_l6SameSums.f
  by_cases h : a.length = b.length
  · rw [if_pos (by omega)]
    exact spec_l6SameSums_l a b h hl a.length k 0 (by omega) (by omega) hk
  · rw [if_neg (by omega)]
    have : a ≠ b := fun e => h (by rw [e])
    simp [this]

theorem impl_Sum_l (a b : List S81) (hab : a.length = b.length) (hl : a.length ≤ 140737488355328) (d : Nat) : ∀ (k : Nat) (i : Nat), i ≤ a.length → a.length - i = d → d < k →
    impl_Sum.l0 k a b (a.length : Int) (i : Int) = some (decide (a.drop i = b.drop i)) := by
  induction d with
  | zero =>
    intro k i hi hd hk
    obtain ⟨k, rfl⟩ : ∃ m, k = m + 1 := ⟨k - 1, by omega⟩
    simp only [impl_Sum.l0]
    rw [if_neg (by omega)]
    have e : a.drop i = b.drop i := by rw [List.drop_eq_nil_of_le (by omega), List.drop_eq_nil_of_le (by omega)]
    rw [decide_eq_true e]
  | succ d ih =>
    intro k i hi hd hk
    obtain ⟨k, rfl⟩ : ∃ m, k = m + 1 := ⟨k - 1, by omega⟩
    simp only [impl_Sum.l0]
    rw [if_pos (by omega), if_pos (by omega), if_pos (by omega), if_pos (by omega), wnat (by omega), rd_S (by omega : i < a.length), rd_S (by omega : i < b.length), ih k (i + 1) (by omega) (by omega) (by omega)]
    have e := drop_eq_iffS (a := a) (b := b) (i := i) (by omega) (by omega)
    by_cases h : a[i]'(by omega) = b[i]'(by omega)
    · rw [if_neg (by rw [h]; simp)]; simp only [e, h, true_and]
    · rw [if_pos]
      · simp only [e, h, false_and, decide_false]
      · have h' : ¬ ((a[i]'(by omega)).f0 = (b[i]'(by omega)).f0 ∧ (a[i]'(by omega)).f1 = (b[i]'(by omega)).f1) := fun g => h (S_eq_iff.1 (Prod.ext g.1 g.2))
        by_cases g : (a[i]'(by omega)).f0 = (b[i]'(by omega)).f0
        · have g2 : ¬ (a[i]'(by omega)).f1 = (b[i]'(by omega)).f1 := fun z => h' ⟨g, z⟩
          simp [g, g2]
        · simp [g]
theorem impl_Sum_v {k : Nat} {a b : List S81} (hl : a.length ≤ 140737488355328) (hk : a.length < k) : impl_Sum.f k a b = some (decide (a = b)) := by
  unfold impl_Sum.f
  by_cases h : a.length = b.length
  · rw [if_pos (by omega)]
    exact impl_Sum_l a b h hl a.length k 0 (by omega) (by omega) hk
  · rw [if_neg (by omega)]
    have : a ≠ b := fun e => h (by rw [e])
    simp [this]

theorem spec_Tells_v {k : Nat} (a b c : Int) (l : List S81) {m : List Int} (hb : Byt m) (hl : m.length ≤ 140737488351232) (hk : 100 < k) : spec_Tells.f k a b c l m = some (decide ((m.length : Int) = c ∧ toSs (sumsOf m b) = l)) := by
  unfold spec_Tells.f
  by_cases h : (m.length : Int) = c
  · have hs : (toSs (sumsOf m b)).length ≤ 40 := by
      have := sumsOf_length m b
      have := blocks_le b (m.length : Int)
      rw [toSs_length]; omega
    rw [if_pos h, spec_SumsOf_v hb hl b hk, Option.bind_some, spec_l6SameSums_v (by omega) (by omega), Option.bind_some]
    simp [h]
  · rw [if_neg h]; simp [h]

theorem impl_Tells_v {k : Nat} (a b c : Int) (l : List S81) {m : List Int} (hb : Byt m) (hl : m.length ≤ 140737488351232) (hk : 100 < k) : impl_Tells.f k a b c l m = some (decide ((m.length : Int) = c ∧ toSs (sumsOf m b) = l)) := by
  unfold impl_Tells.f
  by_cases h : (m.length : Int) = c
  · have hs : (toSs (sumsOf m b)).length ≤ 40 := by
      have := sumsOf_length m b
      have := blocks_le b (m.length : Int)
      rw [toSs_length]; omega
    rw [if_pos h, impl_SumsOf_v hb hl b hk, Option.bind_some, impl_Sum_v (by omega) (by omega), Option.bind_some]
    simp [h]
  · rw [if_neg h]; simp [h]

theorem FnExactTells (c0 c1 c2 : Int) (l : List S105) (b : List Int) (hm : l.length ≤ maxLen) (hm' : b.length ≤ maxLen) (hw : ∀ n ∈ b, (Lit.int .u8 n).wf = true) : ∃ k, laws_FnExactTells.f k c0 c1 c2 l b = some true := by
  have hb : Byt b := fun x hx => wf_u8 (hw x hx)
  refine exists_ge 1048680 _ (fun k hk => ?_)
  unfold laws_FnExactTells.f
  by_cases hB : (b.length : Int) > 1048576
  · rw [if_pos hB]
  · rw [if_neg hB, laws_szManifest_v _ _ _ (by omega) (by omega) hm, Option.bind_some]
    by_cases hbig : (1048576 : Int) - (l.length : Int) < 0
    · rw [if_pos hbig, if_pos (by omega)]
    · rw [if_neg hbig, if_neg hbig]
      have ht : (toSs (ofLs l)).length = l.length := by rw [toSs_length, ofLs_length]
      have h1 := fun (j : Nat) (hj : 100 < j) (x y z : Int) q => spec_Tells_v (k := j) x y z q hb (by omega) hj
      have h2 := fun (j : Nat) (hj : 100 < j) (x y z : Int) q => impl_Tells_v (k := j) x y z q hb (by omega) hj
      simp (disch := omega) only [laws_toManifest_v, laws_toByteS_v, h1, h2, laws_eqManifest_v, laws_eqByteS_v, Option.bind_some, decide_true, if_true, if_false, bne_self_eq_false, Bool.false_eq_true, Bool.not_true, Bool.not_false]

end Go.Proofs.Ytfmhhjlhaklljaa.Pure
