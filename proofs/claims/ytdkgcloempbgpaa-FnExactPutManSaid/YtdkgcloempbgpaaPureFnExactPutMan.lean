/- PutMan returns what the reference's PutMan returns, in memory of its own, and leaves its arguments as they were, for all arguments; no condition. -/
import Derived.Test.YtdkgcloempbgpaaPFnExactPutManx10
import Derived.Test.YtdkgcloempbgpaaLib
set_option linter.unusedVariables false
set_option linter.unusedSimpArgs false
namespace Go.Proofs.Ytdkgcloempbgpaa.Pure
open Go.RowKit Go.Proofs.Ytdkgcloempbgpaa.PFnExactPutMan Go.Proofs.YtdkgcloempbgpaaW.PrintWords Go.Proofs.YtdkgcloempbgpaaW.PrintLast Go.Proofs.YtdkgcloempbgpaaW.PrintMore Go.Proofs.Ytdkgcloempbgpaa.Lib

instance : DecidableEq S66 := fun a b => decidable_of_iff (a.f0 = b.f0 ∧ a.f1 = b.f1) ⟨fun h => by cases a; cases b; simp_all, fun h => by rw [h]; exact ⟨rfl, rfl⟩⟩
def toS (p : Int × Int) : S66 := ⟨p.1, p.2⟩
def toSs (l : List (Int × Int)) : List S66 := l.map toS
theorem toS_inj {p q : Int × Int} (h : toS p = toS q) : p = q := by
  have h1 := congrArg S66.f0 h
  have h2 := congrArg S66.f1 h
  exact Prod.ext h1 h2
theorem toSs_inj {l m : List (Int × Int)} (h : toSs l = toSs m) : l = m := (List.map_inj_right (fun p q hq => toS_inj hq)).1 h
theorem toSs_length (l : List (Int × Int)) : (toSs l).length = l.length := by simp [toSs]
theorem toSs_onto (l : List S66) : ∃ m, l = toSs m ∧ m.length = l.length := ⟨l.map fun s => (s.f0, s.f1), by
  induction l with
  | nil => rfl
  | cons s l ih => simp only [List.map_cons, toSs] at ih ⊢; rw [← ih]; rfl, by simp⟩
theorem rd_S {l : List S66} {i : Nat} (h : i < l.length) : rd_T66 l (i : Int) = l[i] := by
  unfold rd_T66
  rw [Int.toNat_natCast, List.getD_eq_getElem?_getD, List.getElem?_eq_getElem h]; rfl
theorem drop_eq_iffS {a b : List S66} {i : Nat} (ha : i < a.length) (hb : i < b.length) : (a.drop i = b.drop i) ↔ (a[i] = b[i] ∧ a.drop (i + 1) = b.drop (i + 1)) := by
  rw [List.drop_eq_getElem_cons ha, List.drop_eq_getElem_cons hb, List.cons.injEq]
theorem S_eq_iff {a b : S66} : (a.f0, a.f1) = (b.f0, b.f1) ↔ a = b := by cases a; cases b; simp

def ofL (s : S95) : Int × Int := (s.f0, s.f1)
def ofLs (l : List S95) : List (Int × Int) := l.map ofL
theorem ofLs_length (l : List S95) : (ofLs l).length = l.length := by simp [ofLs]
theorem rd_L {l : List S95} {i : Nat} (h : i < l.length) : rd_T95 l (i : Int) = l[i] := by
  unfold rd_T95
  rw [Int.toNat_natCast, List.getD_eq_getElem?_getD, List.getElem?_eq_getElem h]; rfl

theorem spec_l1In_v (a b c : Int) : spec_l1In.f a b c = some (decide (b ≤ a ∧ a ≤ c)) := by
  unfold spec_l1In.f
  by_cases h : b ≤ a
  · rw [if_pos h]; simp [h]
  · rw [if_neg h]; simp [h]

theorem impl_within_v (a b c : Int) : impl_within.f a b c = some (decide (b ≤ a ∧ a ≤ c)) := by
  unfold impl_within.f
  by_cases h : b ≤ a
  · rw [if_pos h]; simp [h]
  · rw [if_neg h]; simp [h]

theorem laws_toByteS_l (l : List Int) (hl : l.length ≤ 140737488351232) (d : Nat) : ∀ (k : Nat) (out : List Int) (i : Nat), out.length = l.length → i ≤ l.length → l.length - i = d → d < k →
    (∀ j, j < i → out[j]? = l[j]?) → laws_toByteS.l0 k l out (i : Int) = some l := by
  induction d with
  | zero =>
    intro k out i ho hi hd hk hj
    obtain ⟨k, rfl⟩ : ∃ m, k = m + 1 := ⟨k - 1, by omega⟩
    simp only [laws_toByteS.l0]
    rw [if_neg (by omega)]
    congr 1
    apply List.ext_getElem?
    intro j
    by_cases hjl : j < i
    · exact hj j hjl
    · rw [List.getElem?_eq_none (by omega), List.getElem?_eq_none (by omega)]
  | succ d ih =>
    intro k out i ho hi hd hk hj
    obtain ⟨k, rfl⟩ : ∃ m, k = m + 1 := ⟨k - 1, by omega⟩
    simp only [laws_toByteS.l0]
    rw [if_pos (by omega), if_pos (by omega), if_pos (by omega), wnat (by omega), rd_at (by omega : i < l.length)]
    refine ih k _ (i + 1) (by simp [ho]) (by omega) (by omega) (by omega) (fun j h => ?_)
    rw [Int.toNat_natCast, List.getElem?_set]
    by_cases e : i = j
    · subst e; rw [if_pos rfl, if_pos (by omega), List.getElem?_eq_getElem]
    · rw [if_neg e]; exact hj j (by omega)
theorem laws_toByteS_v {k : Nat} {l : List Int} (hl : l.length ≤ 140737488351232) (hk : l.length < k) : laws_toByteS.f k l = some l := by
  unfold laws_toByteS.f
  rw [if_pos (by omega), if_pos (by omega)]
  exact laws_toByteS_l l hl l.length k _ 0 (by simp) (by omega) (by omega) hk (fun j h => by omega)

theorem laws_eqByteS_l (a b : List Int) (hab : a.length = b.length) (hl : a.length ≤ 140737488355328) (d : Nat) : ∀ (k : Nat) (i : Nat), i ≤ a.length → a.length - i = d → d < k →
    laws_eqByteS.l0 k a b (i : Int) = some (decide (a.drop i = b.drop i)) := by
  induction d with
  | zero =>
    intro k i hi hd hk
    obtain ⟨k, rfl⟩ : ∃ m, k = m + 1 := ⟨k - 1, by omega⟩
    simp only [laws_eqByteS.l0]
    rw [if_neg (by omega), List.drop_eq_nil_of_le (by omega), List.drop_eq_nil_of_le (by omega)]
    rfl
  | succ d ih =>
    intro k i hi hd hk
    obtain ⟨k, rfl⟩ : ∃ m, k = m + 1 := ⟨k - 1, by omega⟩
    simp only [laws_eqByteS.l0]
    rw [if_pos (by omega), if_pos (by omega), if_pos (by omega), wnat (by omega), rd_at (by omega : i < a.length), rd_at (by omega : i < b.length), ih k (i + 1) (by omega) (by omega) (by omega)]
    have e := drop_eq_iff (a := a) (b := b) (i := i) (by omega) (by omega)
    by_cases h : a[i]'(by omega) = b[i]'(by omega)
    · rw [if_pos h]; simp only [e, h, true_and]
    · rw [if_neg h]; simp only [e, h, false_and, decide_false]
theorem laws_eqByteS_v {k : Nat} {a b : List Int} (hl : a.length ≤ 140737488355328) (hk : a.length < k) : laws_eqByteS.f k a b = some (decide (a = b)) := by
  unfold laws_eqByteS.f
  by_cases h : a.length = b.length
  · rw [if_pos (by omega)]
    exact laws_eqByteS_l a b h hl a.length k 0 (by omega) (by omega) hk
  · rw [if_neg (by omega)]
    have : a ≠ b := fun e => h (by rw [e])
    simp [this]

theorem impl_Wrap_v {a m : Int} (h0 : 1 ≤ m) (h1 : m ≤ 1000000000000) : impl_Wrap.f a m = some (a % m) := by
  unfold impl_Wrap.f
  rw [impl_within_v, Option.bind_some, decide_eq_true (by omega), if_pos rfl, if_neg (by omega)]
  have h2 : a.tmod m = a - m * a.tdiv m := by have := Int.mul_tdiv_add_tmod a m; omega
  have h3 : -m < a.tmod m ∧ a.tmod m < m := ⟨by have := Int.lt_tmod_of_pos a (by omega : 0 < m); omega, Int.tmod_lt_of_pos a (by omega)⟩
  rw [w64 (by omega) (by omega), tmod_nn (by omega), Int.add_emod_right, h2, Int.sub_mul_emod_self_left]

theorem impl_weak_v (x y : Int) : impl_weak.f x y = some (x % 251 + 251 * (y % 251)) := by
  unfold impl_weak.f
  rw [impl_Wrap_v (by omega) (by omega), impl_Wrap_v (by omega) (by omega)]
  simp only [Option.bind_some]
  rw [w64 (x := 251 * (y % 251)) (by omega) (by omega), w64 (by omega) (by omega)]

theorem spec_WeakOf_l (l : List Int) (hb : Byt l) (hl : l.length ≤ 140737488351232) (d : Nat) : ∀ (k : Nat) (i : Nat), i ≤ l.length → l.length - i = d → d < k →
    spec_WeakOf.l0 k l (sx (l.take i) % 251) (sy (l.take i) % 251) (i : Int) = some (weakOf l) := by
  induction d with
  | zero =>
    intro k i hi hd hk
    obtain ⟨k, rfl⟩ : ∃ m, k = m + 1 := ⟨k - 1, by omega⟩
    simp only [spec_WeakOf.l0]
    rw [if_neg (by omega), List.take_of_length_le (by omega), w64 (x := 251 * (sy l % 251)) (by omega) (by omega), w64 (by omega) (by omega)]
    rfl
  | succ d ih =>
    intro k i hi hd hk
    obtain ⟨k, rfl⟩ : ∃ m, k = m + 1 := ⟨k - 1, by omega⟩
    simp only [spec_WeakOf.l0]
    have hc := hb l[i] (List.getElem_mem (by omega))
    rw [if_pos (by omega), if_pos (by omega), wnat (by omega), rd_at (by omega : i < l.length), w64 (x := l[i]) (by omega) (by omega), w64 (by omega) (by omega), tmod_nn (by omega), w64 (by omega) (by omega), tmod_nn (by omega)]
    have e : l.take (i + 1) = l.take i ++ [l[i]] := List.take_succ_eq_append_getElem (by omega)
    have := ih k (i + 1) (by omega) (by omega) (by omega)
    rw [e, sx_snoc, sy_snoc] at this
    rw [show (sx (l.take i) % 251 + l[i]) % 251 = (sx (l.take i) + l[i]) % 251 from by omega, show (sy (l.take i) % 251 + (sx (l.take i) + l[i]) % 251) % 251 = (sy (l.take i) + sx (l.take i) + l[i]) % 251 from by omega]
    exact this
theorem spec_WeakOf_v {k : Nat} {l : List Int} (hb : Byt l) (hl : l.length ≤ 140737488351232) (hk : l.length < k) : spec_WeakOf.f k l = some (weakOf l) := by
  unfold spec_WeakOf.f
  exact spec_WeakOf_l l hb hl l.length k 0 (by omega) (by omega) hk

theorem impl_WeakOf_l (l : List Int) (hb : Byt l) (hl : l.length ≤ 140737488351232) (d : Nat) : ∀ (k : Nat) (i : Nat), i ≤ l.length → l.length - i = d → d < k →
    impl_WeakOf.l0 k (sx (l.take i) % 251) (sy (l.take i) % 251) l (l.length : Int) (i : Int) = some (weakOf l) := by
  induction d with
  | zero =>
    intro k i hi hd hk
    obtain ⟨k, rfl⟩ : ∃ m, k = m + 1 := ⟨k - 1, by omega⟩
    simp only [impl_WeakOf.l0]
    rw [if_neg (by omega), impl_weak_v, List.take_of_length_le (by omega)]
    simp only [Option.bind_some, weakOf, Int.emod_emod]
  | succ d ih =>
    intro k i hi hd hk
    obtain ⟨k, rfl⟩ : ∃ m, k = m + 1 := ⟨k - 1, by omega⟩
    simp only [impl_WeakOf.l0]
    have hc := hb l[i] (List.getElem_mem (by omega))
    rw [if_pos (by omega), if_pos (by omega), if_pos (by omega), wnat (by omega), rd_at (by omega : i < l.length), w64 (x := l[i]) (by omega) (by omega), w64 (by omega) (by omega), tmod_nn (by omega), w64 (by omega) (by omega), tmod_nn (by omega)]
    have e : l.take (i + 1) = l.take i ++ [l[i]] := List.take_succ_eq_append_getElem (by omega)
    have := ih k (i + 1) (by omega) (by omega) (by omega)
    rw [e, sx_snoc, sy_snoc] at this
    rw [show (sx (l.take i) % 251 + l[i]) % 251 = (sx (l.take i) + l[i]) % 251 from by omega, show (sy (l.take i) % 251 + (sx (l.take i) + l[i]) % 251) % 251 = (sy (l.take i) + sx (l.take i) + l[i]) % 251 from by omega]
    exact this
theorem impl_WeakOf_v {k : Nat} {l : List Int} (hb : Byt l) (hl : l.length ≤ 140737488351232) (hk : l.length < k) : impl_WeakOf.f k l = some (weakOf l) := by
  unfold impl_WeakOf.f
  exact impl_WeakOf_l l hb hl l.length k 0 (by omega) (by omega) hk

theorem spec_SizeOk_v (s n : Int) : spec_SizeOk.f s n = some (sizeOk s n) := by
  unfold spec_SizeOk.f sizeOk
  rw [spec_l1In_v]
  simp only [Option.bind_some]
  by_cases h : 2 ≤ s ∧ s ≤ 6
  · rw [decide_eq_true h, if_pos rfl, spec_l1In_v, w64 (by omega) (by omega)]
    simp [h]
  · rw [decide_eq_false h, if_neg (by decide)]
    have : ¬ (2 ≤ s ∧ s ≤ 6 ∧ 0 ≤ n ∧ n ≤ s * 40) := fun g => h ⟨g.1, g.2.1⟩
    rw [decide_eq_false this]

theorem impl_SizeOk_v (s n : Int) : impl_SizeOk.f s n = some (sizeOk s n) := by
  unfold impl_SizeOk.f sizeOk
  rw [impl_within_v]
  simp only [Option.bind_some]
  by_cases h : 2 ≤ s ∧ s ≤ 6
  · rw [decide_eq_true h, if_pos rfl, impl_within_v, Int.mul_comm 40 s, w64 (by omega) (by omega)]
    simp [h]
  · rw [decide_eq_false h, if_neg (by decide)]
    have : ¬ (2 ≤ s ∧ s ≤ 6 ∧ 0 ≤ n ∧ n ≤ s * 40) := fun g => h ⟨g.1, g.2.1⟩
    rw [decide_eq_false this]

theorem spec_CeilDiv_v {a b : Int} (h0 : 0 ≤ a) (h1 : a ≤ 1000000000000) (h2 : 1 ≤ b) (h3 : b ≤ 1000000000000) : spec_CeilDiv.f a b = some ((a + b - 1) / b) := by
  unfold spec_CeilDiv.f
  rw [spec_l1In_v, Option.bind_some, decide_eq_true (by omega), if_pos rfl, spec_l1In_v, Option.bind_some, decide_eq_true (by omega), if_pos rfl, if_neg (by omega), w64 (x := a + b) (by omega) (by omega), w64 (x := a + b - 1) (by omega) (by omega), tdiv_nn (by omega)]
  have h4 : 0 ≤ (a + b - 1) / b := Int.ediv_nonneg (by omega) (by omega)
  have h5 : (a + b - 1) / b ≤ a + b - 1 := Int.ediv_le_self _ (by omega)
  rw [w64 (by omega) (by omega)]

theorem impl_CeilDiv_v {a b : Int} (h0 : 0 ≤ a) (h1 : a ≤ 1000000000000) (h2 : 1 ≤ b) (h3 : b ≤ 1000000000000) : impl_CeilDiv.f a b = some ((a + b - 1) / b) := by
  unfold impl_CeilDiv.f
  rw [impl_within_v, Option.bind_some, decide_eq_true (by omega), if_pos rfl, impl_within_v, Option.bind_some, decide_eq_true (by omega), if_pos rfl, if_neg (by omega), w64 (x := a + b) (by omega) (by omega), w64 (x := a + b - 1) (by omega) (by omega), tdiv_nn (by omega)]
  have h4 : 0 ≤ (a + b - 1) / b := Int.ediv_nonneg (by omega) (by omega)
  have h5 : (a + b - 1) / b ≤ a + b - 1 := Int.ediv_le_self _ (by omega)
  rw [w64 (by omega) (by omega)]

theorem spec_Blocks_v (s n : Int) : spec_Blocks.f s n = some (blocks s n) := by
  unfold spec_Blocks.f blocks
  rw [spec_SizeOk_v, Option.bind_some]
  by_cases h : sizeOk s n = true
  · obtain ⟨h0, h1, h2, h3⟩ := sizeOk_iff.1 h
    rw [if_pos h, if_pos h, spec_CeilDiv_v (by omega) (by omega) (by omega) (by omega)]
    rfl
  · rw [if_neg h, if_neg h]

theorem impl_Blocks_v (s n : Int) : impl_Blocks.f s n = some (blocks s n) := by
  unfold impl_Blocks.f blocks
  rw [impl_SizeOk_v, Option.bind_some]
  by_cases h : sizeOk s n = true
  · obtain ⟨h0, h1, h2, h3⟩ := sizeOk_iff.1 h
    rw [if_pos h, if_pos h, impl_CeilDiv_v (by omega) (by omega) (by omega) (by omega)]
    rfl
  · rw [if_neg h, if_neg h]

theorem spec_Least_v (a b : Int) : spec_Least.f a b = some (mn a b) := by
  unfold spec_Least.f mn
  by_cases h : b < a
  · rw [if_pos h, if_pos h]
  · rw [if_neg h, if_neg h]

theorem spec_SpanOf_v (s n i : Int) : spec_SpanOf.f s n i = some (spanOf s n i) := by
  unfold spec_SpanOf.f spanOf
  rw [spec_Blocks_v, Option.bind_some, spec_l1In_v, Option.bind_some]
  have hb := blocks_le s n
  rw [w64 (x := blocks s n - 1) (by omega) (by omega)]
  by_cases h : 0 ≤ i ∧ i ≤ blocks s n - 1
  · obtain ⟨h0, h1, h2, h3, h4, h5, h6⟩ := span_in h.1 h.2
    rw [decide_eq_true h, if_pos rfl, if_pos h, spec_Least_v, Option.bind_some, w64 (x := i * s) (by omega) (by omega), w64 (by omega) (by omega)]
  · rw [decide_eq_false h, if_neg (by decide), if_neg h]

theorem impl_SpanOf_v (s n i : Int) : impl_SpanOf.f s n i = some (spanOf s n i) := by
  unfold impl_SpanOf.f spanOf
  rw [impl_Blocks_v, Option.bind_some, impl_within_v, Option.bind_some]
  have hb := blocks_le s n
  rw [w64 (x := blocks s n - 1) (by omega) (by omega)]
  by_cases h : 0 ≤ i ∧ i ≤ blocks s n - 1
  · obtain ⟨h0, h1, h2, h3, h4, h5, h6⟩ := span_in h.1 h.2
    rw [decide_eq_true h, if_pos rfl, if_pos h, w64 (x := i * s) (by omega) (by omega), w64 (by omega) (by omega)]
  · rw [decide_eq_false h, if_neg (by decide), if_neg h]

theorem laws_markByteS_l (c : Int) (n : Nat) (hc : 0 ≤ c) (hl : c + n ≤ 4611686018427387904) (d : Nat) : ∀ (k : Nat) (x : List Int) (i : Nat), x.length = n → i ≤ n → n - i = d → d < k →
    (∀ j, j < i → x[j]? = (markB c n)[j]?) → laws_markByteS.l0 k x (c + (i : Int)) (i : Int) = some (c + (n : Int), markB c n) := by
  induction d with
  | zero =>
    intro k x i hx hi hd hk hj
    obtain ⟨k, rfl⟩ : ∃ m, k = m + 1 := ⟨k - 1, by omega⟩
    simp only [laws_markByteS.l0]
    rw [if_neg (by omega), ext_all hx (markB_length c n) (fun j h => hj j (by omega)), show i = n from by omega]
  | succ d ih =>
    intro k x i hx hi hd hk hj
    obtain ⟨k, rfl⟩ : ∃ m, k = m + 1 := ⟨k - 1, by omega⟩
    simp only [laws_markByteS.l0]
    rw [if_pos (by omega), if_pos (by omega), wnat (by omega), w64 (by omega) (by omega), show c + (i : Int) + 1 = c + ((i + 1 : Nat) : Int) from by omega]
    exact ih k _ (i + 1) (by simp [hx]) (by omega) (by omega) (by omega) (set_step (by omega) hj (markB_get c n i (by omega)))
theorem laws_markByteS_v {k : Nat} {x : List Int} {c : Int} (hc : 0 ≤ c) (hl : c + x.length ≤ 4611686018427387904) (hk : x.length < k) : laws_markByteS.f k x c = some (c + (x.length : Int), markB c x.length) := by
  unfold laws_markByteS.f
  have h := laws_markByteS_l c x.length hc hl x.length k x 0 rfl (by omega) (by omega) hk (fun j h => by omega)
  rw [show c + ((0 : Nat) : Int) = c from by omega] at h
  exact h

theorem laws_heldByteS_l (c : Int) (n : Nat) (hc : 0 ≤ c) (hl : c + n ≤ 4611686018427387904) (d : Nat) : ∀ (k : Nat) (i : Nat), i ≤ n → n - i = d → d < k →
    laws_heldByteS.l0 k (markB c n) (c + (i : Int)) (i : Int) = some (c + (n : Int)) := by
  induction d with
  | zero =>
    intro k i hi hd hk
    obtain ⟨k, rfl⟩ : ∃ m, k = m + 1 := ⟨k - 1, by omega⟩
    simp only [laws_heldByteS.l0, markB_length]
    rw [if_neg (by omega), show i = n from by omega]
  | succ d ih =>
    intro k i hi hd hk
    obtain ⟨k, rfl⟩ : ∃ m, k = m + 1 := ⟨k - 1, by omega⟩
    simp only [laws_heldByteS.l0, markB_length]
    rw [if_pos (by omega), if_pos (by omega), markB_rd c n i (by omega), if_pos rfl, wnat (by omega), w64 (by omega) (by omega), show c + (i : Int) + 1 = c + ((i + 1 : Nat) : Int) from by omega]
    exact ih k (i + 1) (by omega) (by omega) (by omega)
theorem laws_heldByteS_v {k : Nat} {n : Nat} {c : Int} (hc : 0 ≤ c) (hl : c + n ≤ 4611686018427387904) (hk : n < k) : laws_heldByteS.f k (markB c n) c = some (c + (n : Int)) := by
  unfold laws_heldByteS.f
  have h := laws_heldByteS_l c n hc hl n k 0 (by omega) (by omega) hk
  rw [show c + ((0 : Nat) : Int) = c from by omega] at h
  exact h

theorem impl_cloned_v {l : List Int} (hl : l.length ≤ 140737488351232) : impl_cloned.f l = some l := by
  unfold impl_cloned.f
  rw [if_pos (by omega), if_pos (by omega)]
  simp only [List.replicate_zero, Option.bind_some, List.nil_append, List.length_nil]
  rw [if_pos (by omega)]

theorem spec_BytesOf_ok (n : Nat) : ∀ (k : Nat) (s : Int) (out : List Int), n ≤ 6 → 256 ^ n ≤ s → s < 2 * 256 ^ n → out.length ≤ 100 - n → n < k → spec_BytesOf.l0 k s out = some (dg n s ++ out, true) := by
  induction n with
  | zero =>
    intro k s out hn h0 h1 ho hk
    obtain ⟨k, rfl⟩ : ∃ m, k = m + 1 := ⟨k - 1, by omega⟩
    simp only [spec_BytesOf.l0]
    rw [if_neg (by omega)]; rfl
  | succ n ih =>
    intro k s out hn h0 h1 ho hk
    obtain ⟨k, rfl⟩ : ∃ m, k = m + 1 := ⟨k - 1, by omega⟩
    have hp := pow256_pos n
    have hq : (256 : Int) ^ n ≤ 256 ^ 5 := by
      rcases (by omega : n = 0 ∨ n = 1 ∨ n = 2 ∨ n = 3 ∨ n = 4 ∨ n = 5) with rfl | rfl | rfl | rfl | rfl | rfl <;> decide
    rw [Int.pow_succ] at h0 h1
    simp only [spec_BytesOf.l0]
    rw [if_pos (by omega), if_neg (by omega), Option.bind_some, if_pos (by simp; omega), and255 (by omega) (by omega), Int.emod_emod, ih k _ _ (by omega) (by omega) (by omega) (by simp; omega) (by omega)]
    simp [dg]
theorem spec_BytesOf_no (n : Nat) : ∀ (k : Nat) (s : Int) (out : List Int), n ≤ 6 → 2 * 256 ^ n ≤ s → s < 256 ^ (n + 1) → out.length ≤ 100 - n → n < k → spec_BytesOf.l0 k s out = some ([], false) := by
  induction n with
  | zero =>
    intro k s out hn h0 h1 ho hk
    obtain ⟨k, rfl⟩ : ∃ m, k = m + 1 := ⟨k - 1, by omega⟩
    simp only [spec_BytesOf.l0]
    rw [if_pos (by omega), if_pos (by omega)]
  | succ n ih =>
    intro k s out hn h0 h1 ho hk
    obtain ⟨k, rfl⟩ : ∃ m, k = m + 1 := ⟨k - 1, by omega⟩
    have hp := pow256_pos n
    have hq : (256 : Int) ^ n ≤ 256 ^ 5 := by
      rcases (by omega : n = 0 ∨ n = 1 ∨ n = 2 ∨ n = 3 ∨ n = 4 ∨ n = 5) with rfl | rfl | rfl | rfl | rfl | rfl <;> decide
    rw [Int.pow_succ] at h0 h1
    rw [Int.pow_succ] at h1
    simp only [spec_BytesOf.l0]
    rw [if_pos (by omega), if_neg (by omega), Option.bind_some, if_pos (by simp; omega), and255 (by omega) (by omega), Int.emod_emod, ih k _ _ (by omega) (by omega) (by rw [Int.pow_succ]; omega) (by simp; omega) (by omega)]
theorem spec_BytesOf_v {k : Nat} (s : Int) (hk : 20 < k) : spec_BytesOf.f k s = some (bytesOfS s) := by
  unfold spec_BytesOf.f bytesOfS
  simp only [spec_l1In_v, Option.bind_some]
  by_cases h0 : 1 ≤ s ∧ s ≤ 562949953421311
  · have ok := fun (n : Nat) (h : n ≤ 6) h1 h2 => spec_BytesOf_ok n k s [] h h1 h2 (by simp) (by omega)
    have no := fun (n : Nat) (h : n ≤ 6) h1 h2 => spec_BytesOf_no n k s [] h h1 h2 (by simp) (by omega)
    rw [decide_eq_true h0, if_pos rfl, if_neg (by omega)]
    by_cases c1 : s < 2
    · rw [if_pos c1, ok 0 (by omega) (by omega) (by omega)]; rfl
    rw [if_neg c1]
    by_cases c2 : s < 256
    · rw [if_pos c2, no 0 (by omega) (by omega) (by omega)]
    rw [if_neg c2]
    by_cases c3 : s < 512
    · rw [if_pos c3, ok 1 (by omega) (by omega) (by omega), List.append_nil]
    rw [if_neg c3]
    by_cases c4 : s < 65536
    · rw [if_pos c4, no 1 (by omega) (by omega) (by omega)]
    rw [if_neg c4]
    by_cases c5 : s < 131072
    · rw [if_pos c5, ok 2 (by omega) (by omega) (by omega), List.append_nil]
    rw [if_neg c5]
    by_cases c6 : s < 16777216
    · rw [if_pos c6, no 2 (by omega) (by omega) (by omega)]
    rw [if_neg c6]
    by_cases c7 : s < 33554432
    · rw [if_pos c7, ok 3 (by omega) (by omega) (by omega), List.append_nil]
    rw [if_neg c7]
    by_cases c8 : s < 4294967296
    · rw [if_pos c8, no 3 (by omega) (by omega) (by omega)]
    rw [if_neg c8]
    by_cases c9 : s < 8589934592
    · rw [if_pos c9, ok 4 (by omega) (by omega) (by omega), List.append_nil]
    rw [if_neg c9]
    by_cases c10 : s < 1099511627776
    · rw [if_pos c10, no 4 (by omega) (by omega) (by omega)]
    rw [if_neg c10]
    by_cases c11 : s < 2199023255552
    · rw [if_pos c11, ok 5 (by omega) (by omega) (by omega), List.append_nil]
    rw [if_neg c11]
    by_cases c12 : s < 281474976710656
    · rw [if_pos c12, no 5 (by omega) (by omega) (by omega)]
    rw [if_neg c12, if_pos (by omega), ok 6 (by omega) (by omega) (by omega), List.append_nil]
  · rw [decide_eq_false h0, if_neg (by decide)]
    by_cases h1 : s < 1
    · rw [if_pos h1]
    · simp only [if_neg h1]
      repeat rw [if_neg (by omega)]

theorem impl_BytesOf_in (s : Int) (n : Nat) (hn : n ≤ 6) (d : Nat) : ∀ (k : Nat) (out : List Int) (i : Nat), out.length = n → i ≤ n → n - i = d → d < k → (∀ j, j < i → out[j]? = (dg n s)[j]?) →
    impl_BytesOf.l1 k s (n : Int) out (n : Int) (i : Int) = some (dg n s, true) := by
  induction d with
  | zero =>
    intro k out i ho hi hd hk hj
    obtain ⟨k, rfl⟩ : ∃ m, k = m + 1 := ⟨k - 1, by omega⟩
    simp only [impl_BytesOf.l1]
    rw [if_neg (by omega), ext_all ho (dg_length n s) (fun j h => hj j (by omega))]
  | succ d ih =>
    intro k out i ho hi hd hk hj
    obtain ⟨k, rfl⟩ : ∃ m, k = m + 1 := ⟨k - 1, by omega⟩
    simp only [impl_BytesOf.l1]
    rw [if_pos (by omega), w64 (x := (n : Int) - 1) (by omega) (by omega), w64 (x := (n : Int) - 1 - i) (by omega) (by omega), w64 (x := 8 * ((n : Int) - 1 - i)) (by omega) (by omega), if_pos (by omega), if_pos (by omega), if_pos (by omega), wnat (by omega),
      show (n : Int) - 1 - i = ((n - 1 - i : Nat) : Int) from by omega, shr8 s (by omega)]
    exact ih k _ (i + 1) (by simp [ho]) (by omega) (by omega) (by omega) (set_step (by omega) hj (dg_get n s i (by omega)))
/-- The number of bytes is found, or none is. -/
theorem impl_BytesOf_go (s : Int) (t : Nat) (ht : t ≤ 6) (hlast : t = 6 ∨ s / 256 ^ t ≤ 1) (d : Nat) : ∀ (k n : Nat), n ≤ t → t - n = d → d < k → (∀ m, n ≤ m → m < t → s / 256 ^ m > 1) → impl_BytesOf.l0 k s (n : Int) = impl_BytesOf.j1 (k - d - 1) s (t : Int) := by
  induction d with
  | zero =>
    intro k n hn hd hk hm
    obtain ⟨k, rfl⟩ : ∃ m, k = m + 1 := ⟨k - 1, by omega⟩
    obtain rfl : n = t := by omega
    simp only [impl_BytesOf.l0]
    by_cases h6 : n = 6
    · rw [if_neg (by omega)]; rfl
    · rw [if_pos (by omega), w64 (x := 8 * (n : Int)) (by omega) (by omega), if_pos (by omega), shr8 s (by omega), if_neg (by omega)]; rfl
  | succ d ih =>
    intro k n hn hd hk hm
    obtain ⟨k, rfl⟩ : ∃ m, k = m + 1 := ⟨k - 1, by omega⟩
    simp only [impl_BytesOf.l0]
    rw [if_pos (by omega), w64 (x := 8 * (n : Int)) (by omega) (by omega), if_pos (by omega), shr8 s (by omega), if_pos (hm n (by omega) (by omega)), wnat (by omega), ih k (n + 1) (by omega) (by omega) (by omega) (fun m h1 h2 => hm m (by omega) h2)]
    congr 1; omega
theorem impl_BytesOf_yes (s : Int) (t : Nat) (ht : t ≤ 6) (hs : s / 256 ^ t = 1) (hs1 : 1 ≤ s) {k : Nat} (hk : 20 < k) (hm : ∀ m, m < t → s / 256 ^ m > 1) : impl_BytesOf.f k s = some (dg t s, true) := by
  unfold impl_BytesOf.f
  have h := impl_BytesOf_go s t ht (Or.inr (by omega)) t k 0 (by omega) (by omega) (by omega) (fun m _ h => hm m h)
  rw [show ((0 : Nat) : Int) = 0 from rfl] at h
  rw [h]
  obtain ⟨k', hk'⟩ : ∃ m, k - t - 1 = m + 2 := ⟨k - t - 3, by omega⟩
  rw [hk']
  simp only [impl_BytesOf.j1]
  rw [if_neg (by omega), w64 (x := 8 * (t : Int)) (by omega) (by omega), if_pos (by omega), shr8 s (by omega), hs]
  simp only [impl_BytesOf.j2, bne_self_eq_false]
  rw [if_neg (by decide), if_pos (by omega), if_pos (by omega), Option.bind_some, Int.toNat_natCast, List.length_replicate]
  exact impl_BytesOf_in s t ht t k' _ 0 (by simp) (by omega) (by omega) (by omega) (fun j h => by omega)
theorem impl_BytesOf_not (s : Int) (t : Nat) (ht : t ≤ 6) (hs : s / 256 ^ t ≠ 1) (hlast : t = 6 ∨ s / 256 ^ t ≤ 1) {k : Nat} (hk : 20 < k) (hm : ∀ m, m < t → s / 256 ^ m > 1) : impl_BytesOf.f k s = some ([], false) := by
  unfold impl_BytesOf.f
  have h := impl_BytesOf_go s t ht hlast t k 0 (by omega) (by omega) (by omega) (fun m _ h => hm m h)
  rw [show ((0 : Nat) : Int) = 0 from rfl] at h
  rw [h]
  obtain ⟨k', hk'⟩ : ∃ m, k - t - 1 = m + 2 := ⟨k - t - 3, by omega⟩
  rw [hk']
  simp only [impl_BytesOf.j1]
  by_cases h1 : s < 1
  · rw [if_pos h1]; simp only [impl_BytesOf.j2, if_true]
  · rw [if_neg h1, w64 (x := 8 * (t : Int)) (by omega) (by omega), if_pos (by omega), shr8 s (by omega)]
    have hb : (s / 256 ^ t != 1) = true := bne_iff_ne.2 hs
    rw [hb]; simp only [impl_BytesOf.j2, if_true]
theorem below7 {P : Nat → Prop} {t : Nat} (ht : t ≤ 6) (h : (0 < t → P 0) ∧ (1 < t → P 1) ∧ (2 < t → P 2) ∧ (3 < t → P 3) ∧ (4 < t → P 4) ∧ (5 < t → P 5)) : ∀ m, m < t → P m := by
  intro m hm
  rcases (by omega : m = 0 ∨ m = 1 ∨ m = 2 ∨ m = 3 ∨ m = 4 ∨ m = 5) with rfl | rfl | rfl | rfl | rfl | rfl
  · exact h.1 hm
  · exact h.2.1 hm
  · exact h.2.2.1 hm
  · exact h.2.2.2.1 hm
  · exact h.2.2.2.2.1 hm
  · exact h.2.2.2.2.2 hm
theorem impl_BytesOf_v {k : Nat} (s : Int) (hk : 20 < k) : impl_BytesOf.f k s = some (bytesOfS s) := by
  have yes := fun (t : Nat) (h : t ≤ 6) h1 h2 h3 => impl_BytesOf_yes s t h h1 h2 hk h3
  have nope := fun (t : Nat) (h : t ≤ 6) h1 h2 h3 => impl_BytesOf_not s t h h1 h2 hk h3
  unfold bytesOfS
  by_cases c0 : s < 1
  · rw [if_pos c0, nope 0 (by omega) (by omega) (Or.inr (by omega)) (fun m h => by omega)]
  rw [if_neg c0]
  by_cases c1 : s < 2
  · rw [if_pos c1, yes 0 (by omega) (by omega) (by omega) (fun m h => by omega)]; rfl
  rw [if_neg c1]
  by_cases c2 : s < 256
  · rw [if_pos c2, nope 1 (by omega) (by omega) (Or.inr (by omega)) (below7 (by omega) ⟨by omega, by omega, by omega, by omega, by omega, by omega⟩)]
  rw [if_neg c2]
  by_cases c3 : s < 512
  · rw [if_pos c3, yes 1 (by omega) (by omega) (by omega) (below7 (by omega) ⟨by omega, by omega, by omega, by omega, by omega, by omega⟩)]
  rw [if_neg c3]
  by_cases c4 : s < 65536
  · rw [if_pos c4, nope 2 (by omega) (by omega) (Or.inr (by omega)) (below7 (by omega) ⟨by omega, by omega, by omega, by omega, by omega, by omega⟩)]
  rw [if_neg c4]
  by_cases c5 : s < 131072
  · rw [if_pos c5, yes 2 (by omega) (by omega) (by omega) (below7 (by omega) ⟨by omega, by omega, by omega, by omega, by omega, by omega⟩)]
  rw [if_neg c5]
  by_cases c6 : s < 16777216
  · rw [if_pos c6, nope 3 (by omega) (by omega) (Or.inr (by omega)) (below7 (by omega) ⟨by omega, by omega, by omega, by omega, by omega, by omega⟩)]
  rw [if_neg c6]
  by_cases c7 : s < 33554432
  · rw [if_pos c7, yes 3 (by omega) (by omega) (by omega) (below7 (by omega) ⟨by omega, by omega, by omega, by omega, by omega, by omega⟩)]
  rw [if_neg c7]
  by_cases c8 : s < 4294967296
  · rw [if_pos c8, nope 4 (by omega) (by omega) (Or.inr (by omega)) (below7 (by omega) ⟨by omega, by omega, by omega, by omega, by omega, by omega⟩)]
  rw [if_neg c8]
  by_cases c9 : s < 8589934592
  · rw [if_pos c9, yes 4 (by omega) (by omega) (by omega) (below7 (by omega) ⟨by omega, by omega, by omega, by omega, by omega, by omega⟩)]
  rw [if_neg c9]
  by_cases c10 : s < 1099511627776
  · rw [if_pos c10, nope 5 (by omega) (by omega) (Or.inr (by omega)) (below7 (by omega) ⟨by omega, by omega, by omega, by omega, by omega, by omega⟩)]
  rw [if_neg c10]
  by_cases c11 : s < 2199023255552
  · rw [if_pos c11, yes 5 (by omega) (by omega) (by omega) (below7 (by omega) ⟨by omega, by omega, by omega, by omega, by omega, by omega⟩)]
  rw [if_neg c11]
  by_cases c12 : s < 281474976710656
  · rw [if_pos c12, nope 6 (by omega) (by omega) (Or.inl rfl) (below7 (by omega) ⟨by omega, by omega, by omega, by omega, by omega, by omega⟩)]
  rw [if_neg c12]
  by_cases c13 : s < 562949953421312
  · rw [if_pos c13, yes 6 (by omega) (by omega) (by omega) (below7 (by omega) ⟨by omega, by omega, by omega, by omega, by omega, by omega⟩)]
  · rw [if_neg c13, nope 6 (by omega) (by omega) (Or.inl rfl) (below7 (by omega) ⟨by omega, by omega, by omega, by omega, by omega, by omega⟩)]

theorem spec_SumOf_l (l : List Int) (hb : Byt l) (hl : l.length ≤ 6) (d : Nat) : ∀ (k : Nat) (i : Nat), i ≤ l.length → l.length - i = d → d + 10 < k → spec_SumOf.l0 k l (sumS (l.take i)) (i : Int) = some (weakOf l, sumS l) := by
  induction d with
  | zero =>
    intro k i hi hd hk
    obtain ⟨k, rfl⟩ : ∃ m, k = m + 1 := ⟨k - 1, by omega⟩
    simp only [spec_SumOf.l0]
    rw [if_neg (by omega), spec_WeakOf_v hb (by omega) (by omega), List.take_of_length_le (by omega)]; rfl
  | succ d ih =>
    intro k i hi hd hk
    obtain ⟨k, rfl⟩ : ∃ m, k = m + 1 := ⟨k - 1, by omega⟩
    simp only [spec_SumOf.l0]
    have hc := hb l[i] (List.getElem_mem (by omega))
    have h1 := sumS_small (l := l.take i) (byt_take hb i) (by simp; omega)
    rw [if_pos (by omega), if_pos (by omega), wnat (by omega), rd_at (by omega : i < l.length), w64 (x := 256 * sumS (l.take i)) (by omega) (by omega), w64 (x := l[i]) (by omega) (by omega), w64 (by omega) (by omega)]
    have e : l.take (i + 1) = l.take i ++ [l[i]] := List.take_succ_eq_append_getElem (by omega)
    have := ih k (i + 1) (by omega) (by omega) (by omega)
    rw [e, sumS_snoc, Int.mul_comm] at this
    exact this
theorem spec_SumOf_v {k : Nat} {l : List Int} (hb : Byt l) (hk : 20 < k) : spec_SumOf.f k l = some (sumOf l) := by
  unfold spec_SumOf.f sumOf
  by_cases h : l.length ≤ 6
  · rw [if_neg (by omega), if_pos h]
    exact spec_SumOf_l l hb h l.length k 0 (by omega) (by omega) (by omega)
  · rw [if_pos (by omega), if_neg h]

theorem laws_eqSum_v (a b c d : Int) : laws_eqSum.f a b c d = some (decide ((a, b) = (c, d))) := by
  unfold laws_eqSum.f
  by_cases h : a = c
  · by_cases h' : b = d
    · rw [if_pos h, if_pos h']; simp [h, h']
    · rw [if_pos h, if_neg h']; simp [h']
  · rw [if_neg h]; simp [h]

theorem spec_PutVar_l (f : Nat) : ∀ (k : Nat) (n : Int) (b : List Int), f ≤ 8 → 0 ≤ n → n < 128 ^ (f + 1) → b.length ≤ 140737488355000 - f → f < k → spec_PutVar.l0 k n b = some (b ++ vr f n) := by
  induction f with
  | zero =>
    intro k n b hf h0 h1 hb hk
    obtain ⟨k, rfl⟩ : ∃ m, k = m + 1 := ⟨k - 1, by omega⟩
    simp only [spec_PutVar.l0]
    rw [if_neg (by omega), if_pos (by omega), vr]
    rw [Int.emod_eq_of_lt (by omega) (by omega)]
  | succ f ih =>
    intro k n b hf h0 h1 hb hk
    obtain ⟨k, rfl⟩ : ∃ m, k = m + 1 := ⟨k - 1, by omega⟩
    simp only [spec_PutVar.l0]
    have hn : n < 9223372036854775808 := by
      have : (128 : Int) ^ (f + 1 + 1) ≤ 128 ^ 9 := pow128_le (by omega)
      omega
    rw [Int.pow_succ] at h1
    rw [vr]
    by_cases h : n < 128
    · rw [if_neg (by omega), if_pos (by omega), if_pos h, Int.emod_eq_of_lt (by omega) (by omega)]
    · rw [if_pos (by omega), if_pos (by omega), if_neg h, and127n h0 hn, or128 (by omega) (by omega), ih k _ _ (by omega) (by omega) (by omega) (by simp; omega) (by omega)]
      rw [Int.emod_eq_of_lt (by omega) (by omega)]
      simp
theorem spec_PutVar_v {k : Nat} {l : List Int} (hl : l.length ≤ 140737488351232) (n : Int) (hk : 20 < k) : spec_PutVar.f k l n = some (putVar l n) := by
  unfold spec_PutVar.f putVar
  simp only [Option.bind_some, List.length_nil, List.nil_append, spec_l1In_v]
  rw [if_pos (by omega)]
  by_cases h : 0 ≤ n ∧ n ≤ 1000000000000
  · rw [decide_eq_true h, if_pos rfl, if_pos h, spec_PutVar_l 8 k n l (by omega) h.1 (by omega) (by omega) (by omega)]
  · rw [decide_eq_false h, if_neg (by decide), if_neg h]

theorem impl_appendVar_l (f : Nat) : ∀ (k : Nat) (n : Int) (b : List Int), f ≤ 8 → 0 ≤ n → n < 128 ^ (f + 1) → b.length ≤ 140737488355000 - f → f < k → impl_appendVar.l0 k b n = some (b ++ vr f n) := by
  induction f with
  | zero =>
    intro k n b hf h0 h1 hb hk
    obtain ⟨k, rfl⟩ : ∃ m, k = m + 1 := ⟨k - 1, by omega⟩
    simp only [impl_appendVar.l0]
    rw [if_neg (by omega), if_pos (by omega), vr]
    rw [Int.emod_eq_of_lt (by omega) (by omega)]
  | succ f ih =>
    intro k n b hf h0 h1 hb hk
    obtain ⟨k, rfl⟩ : ∃ m, k = m + 1 := ⟨k - 1, by omega⟩
    simp only [impl_appendVar.l0]
    rw [Int.pow_succ] at h1
    rw [vr]
    by_cases h : n < 128
    · rw [if_neg (by omega), if_pos (by omega), if_pos h, Int.emod_eq_of_lt (by omega) (by omega)]
    · rw [if_pos (by omega), if_pos (by omega), if_neg h, or128u (by omega) (by omega), ih k _ _ (by omega) (by omega) (by omega) (by simp; omega) (by omega)]
      rw [show n % 256 % 128 = n % 128 from by omega]
      simp
theorem impl_appendVar_v {k : Nat} {l : List Int} (hl : l.length ≤ 140737488352000) {n : Int} (h0 : 0 ≤ n) (h1 : n < 9223372036854775808) (hk : 20 < k) : impl_appendVar.f k l n = some (l ++ vr 8 n) := by
  unfold impl_appendVar.f
  exact impl_appendVar_l 8 k n l (by omega) h0 (by omega) (by omega) (by omega)

theorem impl_PutVar_v {k : Nat} {l : List Int} (hl : l.length ≤ 140737488351232) (n : Int) (hk : 20 < k) : impl_PutVar.f k l n = some (putVar l n) := by
  unfold impl_PutVar.f putVar
  rw [impl_cloned_v hl, Option.bind_some, impl_within_v, Option.bind_some]
  by_cases h : 0 ≤ n ∧ n ≤ 1000000000000
  · rw [decide_eq_true h, if_pos rfl, if_pos h, impl_appendVar_v (by omega) h.1 (by omega) hk]; rfl
  · rw [decide_eq_false h, if_neg (by decide), if_neg h]

theorem laws_eqSumS_l (a b : List S66) (hab : a.length = b.length) (hl : a.length ≤ 140737488355328) (d : Nat) : ∀ (k : Nat) (i : Nat), i ≤ a.length → a.length - i = d → d < k →
    laws_eqSumS.l0 k a b (i : Int) = some (decide (a.drop i = b.drop i)) := by
  induction d with
  | zero =>
    intro k i hi hd hk
    obtain ⟨k, rfl⟩ : ∃ m, k = m + 1 := ⟨k - 1, by omega⟩
    simp only [laws_eqSumS.l0]
    rw [if_neg (by omega)]
    have e : a.drop i = b.drop i := by rw [List.drop_eq_nil_of_le (by omega), List.drop_eq_nil_of_le (by omega)]
    rw [decide_eq_true e]
  | succ d ih =>
    intro k i hi hd hk
    obtain ⟨k, rfl⟩ : ∃ m, k = m + 1 := ⟨k - 1, by omega⟩
    simp only [laws_eqSumS.l0]
    rw [if_pos (by omega), if_pos (by omega), if_pos (by omega), wnat (by omega), rd_S (by omega : i < a.length), rd_S (by omega : i < b.length), ih k (i + 1) (by omega) (by omega) (by omega), laws_eqSum_v, Option.bind_some]
    have e := drop_eq_iffS (a := a) (b := b) (i := i) (by omega) (by omega)
    by_cases h : a[i]'(by omega) = b[i]'(by omega)
    · rw [if_pos (decide_eq_true (S_eq_iff.2 h))]; simp only [e, h, true_and]
    · rw [if_neg (fun e2 => h (S_eq_iff.1 (of_decide_eq_true e2)))]; simp only [e, h, false_and, decide_false]
theorem laws_eqSumS_v {k : Nat} {a b : List S66} (hl : a.length ≤ 140737488355328) (hk : a.length < k) : laws_eqSumS.f k a b = some (decide (a = b)) := by
  unfold laws_eqSumS.f
  by_cases h : a.length = b.length
  · rw [if_pos (by omega)]
    exact laws_eqSumS_l a b h hl a.length k 0 (by omega) (by omega) hk
  · rw [if_neg (by omega)]
    have : a ≠ b := fun e => h (by rw [e])
    simp [this]

theorem laws_markSumS_l (c : Int) (n : Nat) (hc : 0 ≤ c) (hl : c + 2 * n ≤ 4611686018427387904) (d : Nat) : ∀ (k : Nat) (x : List S66) (i : Nat), x.length = n → i ≤ n → n - i = d → d < k →
    (∀ j, j < i → x[j]? = (toSs (markS c n))[j]?) → laws_markSumS.l0 k x (c + 2 * (i : Int)) (i : Int) = some (c + 2 * (n : Int), toSs (markS c n)) := by
  have hml : (toSs (markS c n)).length = n := by rw [toSs_length, markS_length]
  induction d with
  | zero =>
    intro k x i hx hi hd hk hj
    obtain ⟨k, rfl⟩ : ∃ m, k = m + 1 := ⟨k - 1, by omega⟩
    simp only [laws_markSumS.l0]
    rw [if_neg (by omega), ext_all hx hml (fun j h => hj j (by omega)), show i = n from by omega]
  | succ d ih =>
    intro k x i hx hi hd hk hj
    obtain ⟨k, rfl⟩ : ∃ m, k = m + 1 := ⟨k - 1, by omega⟩
    simp only [laws_markSumS.l0]
    rw [if_pos (by omega), if_pos (by omega), Option.bind_some, wnat (by omega), w64 (x := c + 2 * (i : Int) + 1) (by omega) (by omega), w64 (x := c + 2 * (i : Int) + 1 + 1) (by omega) (by omega), show c + 2 * (i : Int) + 1 + 1 = c + 2 * ((i + 1 : Nat) : Int) from by omega, Int.toNat_natCast, rd_S (l := x) (i := i) (by omega), rd_S (i := i) (by rw [List.length_set]; omega), List.set_set, List.getElem_set_self]
    refine ih k _ (i + 1) (by simp [hx]) (by omega) (by omega) (by omega) (set_step (by omega) hj ?_)
    simp [toSs, markS_get c n i (by omega), toS]
theorem laws_markSumS_v {k : Nat} {x : List S66} {c : Int} (hc : 0 ≤ c) (hl : c + 2 * x.length ≤ 4611686018427387904) (hk : x.length < k) : laws_markSumS.f k x c = some (c + 2 * (x.length : Int), toSs (markS c x.length)) := by
  unfold laws_markSumS.f
  have h := laws_markSumS_l c x.length hc hl x.length k x 0 rfl (by omega) (by omega) hk (fun j h => by omega)
  rw [show c + 2 * ((0 : Nat) : Int) = c from by omega] at h
  exact h

theorem laws_eqManifest_v {k : Nat} {a b c a' b' c' : Int} {l l' : List S66} (hl : l.length ≤ 140737488355328) (hk : l.length < k) : laws_eqManifest.f k a b c l a' b' c' l' = some (decide ((a, b, c, l) = (a', b', c', l'))) := by
  unfold laws_eqManifest.f
  rw [laws_eqSumS_v hl hk]
  by_cases h1 : a = a'
  · by_cases h2 : b = b'
    · by_cases h3 : c = c'
      · by_cases h4 : l = l'
        · simp [h1, h2, h3, h4]
        · simp [h1, h2, h3, h4]
      · simp [h1, h2, h3]
    · simp [h1, h2]
  · simp [h1]

theorem laws_markManifest_v {k : Nat} {a b d : Int} {x : List S66} {c : Int} (hc : 0 ≤ c) (hl : c + 2 * x.length ≤ 4611686018427387904) (hk : x.length < k) : laws_markManifest.f k a b d x c = some (c + 2 * (x.length : Int), toSs (markS c x.length)) := by
  unfold laws_markManifest.f
  rw [laws_markSumS_v hc hl hk]; rfl

theorem laws_toSum_v (a b : Int) : laws_toSum.f a b = some (a, b) := rfl

theorem laws_szSumS_v {l : List S95} {left : Int} (h0 : 0 ≤ left) (h1 : left ≤ 1048576) (hl : l.length ≤ maxLen) : laws_szSumS.f l left = some (if left - (l.length : Int) < 0 then -1 else left - (l.length : Int)) := by
  unfold laws_szSumS.f
  simp only [maxLen] at hl
  rw [w64 (by omega) (by omega)]
  by_cases h : left - (l.length : Int) < 0
  · rw [if_pos h, if_pos h]
  · rw [if_neg h, if_neg h]

theorem laws_szManifest_v (a b c : Int) {l : List S95} {left : Int} (h0 : 0 ≤ left) (h1 : left ≤ 1048576) (hl : l.length ≤ maxLen) : laws_szManifest.f a b c l left = some (if left - (l.length : Int) < 0 then -1 else left - (l.length : Int)) := by
  unfold laws_szManifest.f
  rw [laws_szSumS_v h0 h1 hl, Option.bind_some]
  by_cases h : left - (l.length : Int) < 0
  · rw [if_pos h, if_pos (by omega)]
  · rw [if_neg h, if_neg h]

theorem laws_toSumS_l (l : List S95) (hl : l.length ≤ 1048576) (d : Nat) : ∀ (k : Nat) (out : List S66) (i : Nat), out.length = l.length → i ≤ l.length → l.length - i = d → d < k →
    (∀ j, j < i → out[j]? = (toSs (ofLs l))[j]?) → laws_toSumS.l0 k l out (i : Int) = some (toSs (ofLs l)) := by
  have hml : (toSs (ofLs l)).length = l.length := by rw [toSs_length, ofLs_length]
  induction d with
  | zero =>
    intro k out i ho hi hd hk hj
    obtain ⟨k, rfl⟩ : ∃ m, k = m + 1 := ⟨k - 1, by omega⟩
    simp only [laws_toSumS.l0]
    rw [if_neg (by omega), ext_all ho hml (fun j h => hj j (by omega))]
  | succ d ih =>
    intro k out i ho hi hd hk hj
    obtain ⟨k, rfl⟩ : ∃ m, k = m + 1 := ⟨k - 1, by omega⟩
    simp only [laws_toSumS.l0]
    rw [if_pos (by omega), if_pos (by omega), laws_toSum_v, Option.bind_some, if_pos (by omega), wnat (by omega), rd_L (by omega : i < l.length), Int.toNat_natCast]
    refine ih k _ (i + 1) (by simp [ho]) (by omega) (by omega) (by omega) (set_step (by omega) hj ?_)
    rw [List.getElem?_eq_getElem (by omega)]
    simp [toSs, ofLs, ofL, toS]
theorem laws_toSumS_v {k : Nat} {l : List S95} (hl : l.length ≤ 1048576) (hk : l.length < k) : laws_toSumS.f k l = some (toSs (ofLs l)) := by
  unfold laws_toSumS.f
  rw [if_pos (by omega), if_pos (by omega)]
  exact laws_toSumS_l l hl l.length k _ 0 (by simp) (by omega) (by omega) hk (fun j h => by omega)

theorem laws_toManifest_v {k : Nat} (a b c : Int) {l : List S95} (hl : l.length ≤ 1048576) (hk : l.length < k) : laws_toManifest.f k a b c l = some (a, b, c, toSs (ofLs l)) := by
  unfold laws_toManifest.f
  rw [laws_toSumS_v hl hk]; rfl

theorem bytesOfS_sum {s : Int} (h : (bytesOfS s).2 = true) : sumS (bytesOfS s).1 = s ∧ Byt (bytesOfS s).1 := by
  unfold bytesOfS at h ⊢
  by_cases c0 : s < 1
  · rw [if_pos c0] at h; simp at h
  rw [if_neg c0] at h ⊢
  by_cases c1 : s < 2
  · rw [if_pos c1]; exact ⟨by simp [sumS]; omega, byt_nil⟩
  rw [if_neg c1] at h ⊢
  by_cases c2 : s < 256
  · rw [if_pos c2] at h; simp at h
  rw [if_neg c2] at h ⊢
  by_cases c3 : s < 512
  · rw [if_pos c3]; exact ⟨sumS_dg 1 s (by omega) (by omega), dg_byt 1 s⟩
  rw [if_neg c3] at h ⊢
  by_cases c4 : s < 65536
  · rw [if_pos c4] at h; simp at h
  rw [if_neg c4] at h ⊢
  by_cases c5 : s < 131072
  · rw [if_pos c5]; exact ⟨sumS_dg 2 s (by omega) (by omega), dg_byt 2 s⟩
  rw [if_neg c5] at h ⊢
  by_cases c6 : s < 16777216
  · rw [if_pos c6] at h; simp at h
  rw [if_neg c6] at h ⊢
  by_cases c7 : s < 33554432
  · rw [if_pos c7]; exact ⟨sumS_dg 3 s (by omega) (by omega), dg_byt 3 s⟩
  rw [if_neg c7] at h ⊢
  by_cases c8 : s < 4294967296
  · rw [if_pos c8] at h; simp at h
  rw [if_neg c8] at h ⊢
  by_cases c9 : s < 8589934592
  · rw [if_pos c9]; exact ⟨sumS_dg 4 s (by omega) (by omega), dg_byt 4 s⟩
  rw [if_neg c9] at h ⊢
  by_cases d0 : s < 1099511627776
  · rw [if_pos d0] at h; simp at h
  rw [if_neg d0] at h ⊢
  by_cases d1 : s < 2199023255552
  · rw [if_pos d1]; exact ⟨sumS_dg 5 s (by omega) (by omega), dg_byt 5 s⟩
  rw [if_neg d1] at h ⊢
  by_cases d2 : s < 281474976710656
  · rw [if_pos d2] at h; simp at h
  rw [if_neg d2] at h ⊢
  by_cases d3 : s < 562949953421312
  · rw [if_pos d3]; exact ⟨sumS_dg 6 s (by omega) (by omega), dg_byt 6 s⟩
  rw [if_neg d3] at h; simp at h
def sumOkAt (size len : Int) (i : Nat) (x : S66) : Prop :=
  (bytesOfS x.f1).2 = true ∧ ((bytesOfS x.f1).1.length : Int) = (spanOf size len (i : Int)).2 ∧ weakOf (bytesOfS x.f1).1 = x.f0
instance (size len : Int) (i : Nat) (x : S66) : Decidable (sumOkAt size len i x) := by unfold sumOkAt; exact inferInstance
def sumsOk (size len : Int) : Nat → List S66 → Bool
  | _, [] => true
  | i, x :: r => if sumOkAt size len i x then sumsOk size len (i + 1) r else false
def manOk (a b c : Int) (l : List S66) : Bool :=
  if a = 0 then decide (b = 0 ∧ c = 0 ∧ l = [])
  else if 1 ≤ a ∧ a ≤ 1000000 ∧ sizeOk b c = true ∧ (l.length : Int) = blocks b c then sumsOk b c 0 l else false
theorem spec_ManOk_l (a b c : Int) (l : List S66) (hl : l.length ≤ 140737488355328) (d : Nat) : ∀ (k : Nat) (i : Nat), i ≤ l.length → l.length - i = d → d + 30 < k →
    spec_ManOk.l0 k (i : Int) a b c l = some (sumsOk b c i (l.drop i)) := by
  induction d with
  | zero =>
    intro k i hi hd hk
    obtain ⟨k, rfl⟩ : ∃ m, k = m + 1 := ⟨k - 1, by omega⟩
    simp only [spec_ManOk.l0]
    rw [if_neg (by omega), List.drop_eq_nil_of_le (by omega)]; rfl
  | succ d ih =>
    intro k i hi hd hk
    obtain ⟨k, rfl⟩ : ∃ m, k = m + 1 := ⟨k - 1, by omega⟩
    simp only [spec_ManOk.l0]
    rw [if_pos (by omega), if_pos (by omega), rd_S (by omega : i < l.length), spec_BytesOf_v _ (by omega), Option.bind_some, spec_SpanOf_v, Option.bind_some, List.drop_eq_getElem_cons (by omega : i < l.length), sumsOk, wnat (by omega), ih k (i + 1) (by omega) (by omega) (by omega)]
    generalize l[i]'(by omega) = x
    by_cases h1 : (bytesOfS x.f1).2 = true
    · obtain ⟨e1, hby⟩ := bytesOfS_sum h1
      have hlen := bytesOfS_length x.f1
      by_cases h2 : ((bytesOfS x.f1).1.length : Int) = (spanOf b c (i : Int)).2
      · have es : sumOf (bytesOfS x.f1).1 = (weakOf (bytesOfS x.f1).1, x.f1) := by unfold sumOf; rw [if_pos hlen, e1]
        rw [if_pos h1, if_pos h2, spec_SumOf_v hby (by omega), Option.bind_some]
        simp only [es]
        by_cases h3 : weakOf (bytesOfS x.f1).1 = x.f0
        · rw [if_pos (show sumOkAt b c i x from ⟨h1, h2, h3⟩), h3]; simp
        · rw [if_neg (fun g : sumOkAt b c i x => h3 g.2.2)]; simp [h3]
      · rw [if_pos h1, if_neg h2, if_neg (fun g : sumOkAt b c i x => h2 g.2.1)]
    · rw [if_neg h1, if_neg (fun g : sumOkAt b c i x => h1 g.1)]
theorem spec_ManOk_v {k : Nat} (a b c : Int) {l : List S66} (hl : l.length ≤ 140737488355328) (hk : l.length + 40 < k) : spec_ManOk.f k a b c l = some (manOk a b c l) := by
  obtain ⟨k, rfl⟩ : ∃ m, k = m + 1 := ⟨k - 1, by omega⟩
  unfold spec_ManOk.f manOk
  have h0 := spec_ManOk_l a b c l hl l.length k 0 (by omega) (by omega) (by omega)
  simp only [List.drop_zero, show ((0 : Nat) : Int) = 0 from rfl] at h0
  simp only [spec_l1In_v, spec_SizeOk_v, spec_Blocks_v, Option.bind_some, spec_ManOk.j0]
  by_cases hz : a = 0
  · rw [if_pos hz, if_pos hz]
    by_cases h1 : b = 0
    · by_cases h2 : c = 0
      · cases l with
        | nil => simp [h1, h2]
        | cons x r => simp [h1, h2]; omega
      · simp [h1, h2]
    · simp [h1]
  · rw [if_neg hz, if_neg hz]
    by_cases h1 : 1 ≤ a ∧ a ≤ 1000000
    · by_cases h2 : sizeOk b c = true
      · by_cases h3 : (l.length : Int) = blocks b c
        · simp [h1, h2, h3, h0]
        · simp [h1, h2, h3]
      · simp [h1, h2]
    · rw [decide_eq_false h1, if_neg (by decide : ¬ false = true), if_pos trivial, if_neg (fun g => h1 ⟨g.1, g.2.1⟩)]

theorem impl_ManOk_l (a b c : Int) (l : List S66) (hl : l.length ≤ 140737488355328) (d : Nat) : ∀ (k : Nat) (i : Nat), i ≤ l.length → l.length - i = d → d + 30 < k →
    impl_ManOk.l0 k l (l.length : Int) (i : Int) a b c l = some (sumsOk b c i (l.drop i)) := by
  induction d with
  | zero =>
    intro k i hi hd hk
    obtain ⟨k, rfl⟩ : ∃ m, k = m + 1 := ⟨k - 1, by omega⟩
    simp only [impl_ManOk.l0]
    rw [if_neg (by omega), List.drop_eq_nil_of_le (by omega)]; rfl
  | succ d ih =>
    intro k i hi hd hk
    obtain ⟨k, rfl⟩ : ∃ m, k = m + 1 := ⟨k - 1, by omega⟩
    simp only [impl_ManOk.l0]
    rw [if_pos (by omega), if_pos (by omega), if_pos (by omega), rd_S (by omega : i < l.length), impl_BytesOf_v _ (by omega), Option.bind_some, impl_SpanOf_v, Option.bind_some, List.drop_eq_getElem_cons (by omega : i < l.length), sumsOk, wnat (by omega), ih k (i + 1) (by omega) (by omega) (by omega)]
    generalize l[i]'(by omega) = x
    by_cases h1 : (bytesOfS x.f1).2 = true
    · obtain ⟨e1, hby⟩ := bytesOfS_sum h1
      have hlen := bytesOfS_length x.f1
      by_cases h2 : ((bytesOfS x.f1).1.length : Int) = (spanOf b c (i : Int)).2
      · rw [if_pos h1, if_pos h2, impl_WeakOf_v hby (by omega) (by omega), Option.bind_some]
        by_cases h3 : weakOf (bytesOfS x.f1).1 = x.f0
        · rw [if_pos h3, if_pos (show sumOkAt b c i x from ⟨h1, h2, h3⟩)]
        · rw [if_neg h3, if_neg (fun g : sumOkAt b c i x => h3 g.2.2)]
      · rw [if_pos h1, if_neg h2, if_neg (fun g : sumOkAt b c i x => h2 g.2.1)]
    · rw [if_neg h1, if_neg (fun g : sumOkAt b c i x => h1 g.1)]
theorem impl_isZeroMan_v (a b c : Int) (l : List S66) : impl_isZeroMan.f a b c l = some (decide (a = 0 ∧ b = 0 ∧ c = 0 ∧ l = [])) := by
  unfold impl_isZeroMan.f
  by_cases h0 : a = 0
  · by_cases h1 : b = 0
    · by_cases h2 : c = 0
      · cases l with
        | nil => simp [h0, h1, h2]
        | cons x r => simp [h0, h1, h2]; omega
      · simp [h1, h2]
    · simp [h1]
  · simp [h0]
theorem impl_ManOk_v {k : Nat} (a b c : Int) {l : List S66} (hl : l.length ≤ 140737488355328) (hk : l.length + 40 < k) : impl_ManOk.f k a b c l = some (manOk a b c l) := by
  obtain ⟨k, rfl⟩ : ∃ m, k = m + 1 := ⟨k - 1, by omega⟩
  unfold impl_ManOk.f manOk
  have h0 := impl_ManOk_l a b c l hl l.length k 0 (by omega) (by omega) (by omega)
  simp only [List.drop_zero, show ((0 : Nat) : Int) = 0 from rfl] at h0
  simp only [impl_isZeroMan_v, impl_within_v, impl_SizeOk_v, impl_Blocks_v, Option.bind_some, impl_ManOk.j0]
  by_cases hz : a = 0
  · rw [if_pos hz]
    by_cases h1 : b = 0 ∧ c = 0 ∧ l = []
    · simp [hz, h1]
    · have : ¬ (1 ≤ a ∧ a ≤ 1000000) := by omega
      simp [hz, h1]
  · rw [if_neg hz]
    have hz' : ¬ (a = 0 ∧ b = 0 ∧ c = 0 ∧ l = []) := fun g => hz g.1
    rw [decide_eq_false hz', if_neg (by decide)]
    by_cases h1 : 1 ≤ a ∧ a ≤ 1000000
    · by_cases h2 : sizeOk b c = true
      · by_cases h3 : (l.length : Int) = blocks b c
        · simp [h1, h2, h3]
          rw [← h3]; exact h0
        · simp [h1, h2, h3]
      · simp [h1, h2]
    · rw [decide_eq_false h1, if_neg (by decide : ¬ false = true), if_pos trivial, if_neg (fun g => h1 ⟨g.1, g.2.1⟩)]

theorem spec_l6PutSum_l (f : Nat) : ∀ (k : Nat) (n : Int) (b : List Int), f ≤ 8 → 0 ≤ n → n < 128 ^ (f + 1) → b.length ≤ 140737488355000 - f → f < k → spec_l6PutSum.l0 k b n = some (b ++ vr f n) := by
  induction f with
  | zero =>
    intro k n b hf h0 h1 hb hk
    obtain ⟨k, rfl⟩ : ∃ m, k = m + 1 := ⟨k - 1, by omega⟩
    simp only [spec_l6PutSum.l0]
    rw [if_neg (by omega), if_pos (by omega), vr]
    rw [Int.emod_eq_of_lt (by omega) (by omega)]
  | succ f ih =>
    intro k n b hf h0 h1 hb hk
    obtain ⟨k, rfl⟩ : ∃ m, k = m + 1 := ⟨k - 1, by omega⟩
    simp only [spec_l6PutSum.l0]
    have hn : n < 9223372036854775808 := by
      have : (128 : Int) ^ (f + 1 + 1) ≤ 128 ^ 9 := pow128_le (by omega)
      omega
    rw [Int.pow_succ] at h1
    rw [vr]
    by_cases h : n < 128
    · rw [if_neg (by omega), if_pos (by omega), if_pos h, Int.emod_eq_of_lt (by omega) (by omega)]
    · rw [if_pos (by omega), if_pos (by omega), if_neg h, and127n h0 hn, or128 (by omega) (by omega), ih k _ _ (by omega) (by omega) (by omega) (by simp; omega) (by omega)]
      rw [Int.emod_eq_of_lt (by omega) (by omega)]
      simp
theorem spec_l6PutSum_v {k : Nat} {l : List Int} (hl : l.length ≤ 140737488352000) {n : Int} (h0 : 0 ≤ n) (h1 : n < 9223372036854775808) (hk : 20 < k) : spec_l6PutSum.f k l n = some (l ++ vr 8 n) := by
  unfold spec_l6PutSum.f
  exact spec_l6PutSum_l 8 k n l (by omega) h0 (by omega) (by omega) (by omega)

def putSums (acc : List Int) : List S66 → List Int
  | [] => acc
  | x :: r => putSums (acc ++ vr 8 x.f1) r
theorem putSums_length (l : List S66) : ∀ acc, (putSums acc l).length ≤ acc.length + 9 * l.length := by
  induction l with
  | nil => intro acc; simp [putSums]
  | cons x r ih =>
    intro acc
    rw [putSums]
    have h1 := ih (acc ++ vr 8 x.f1)
    have h2 := vr_length 8 x.f1
    simp only [List.length_append, List.length_cons] at h1 ⊢
    omega
def putMan (out : List Int) (a b c : Int) (l : List S66) : List Int := if manOk a b c l = true then putSums (putVar (putVar (putVar out a) b) c) l else out
theorem bytesOfS_range {s : Int} (h : (bytesOfS s).2 = true) : 0 ≤ s ∧ s < 9223372036854775808 := by
  obtain ⟨h1, h2⟩ := bytesOfS_sum h
  have h3 := sumS_small h2 (bytesOfS_length s)
  omega
theorem sumsOk_range (b c : Int) (l : List S66) : ∀ i, sumsOk b c i l = true → ∀ x ∈ l, 0 ≤ x.f1 ∧ x.f1 < 9223372036854775808 := by
  induction l with
  | nil => intro i _ x hx; simp at hx
  | cons y r ih =>
    intro i h x hx
    rw [sumsOk] at h
    by_cases hy : sumOkAt b c i y
    · rw [if_pos hy] at h
      rcases List.mem_cons.1 hx with rfl | hx
      · exact bytesOfS_range hy.1
      · exact ih (i + 1) h x hx
    · rw [if_neg hy] at h; simp at h
theorem manOk_in {a b c : Int} {l : List S66} (h : manOk a b c l = true) : l.length ≤ 40 ∧ ∀ x ∈ l, 0 ≤ x.f1 ∧ x.f1 < 9223372036854775808 := by
  unfold manOk at h
  by_cases h0 : a = 0
  · rw [if_pos h0] at h
    obtain ⟨_, _, rfl⟩ := of_decide_eq_true h
    exact ⟨by simp, fun x hx => by simp at hx⟩
  · rw [if_neg h0] at h
    by_cases h1 : 1 ≤ a ∧ a ≤ 1000000 ∧ sizeOk b c = true ∧ (l.length : Int) = blocks b c
    · rw [if_pos h1] at h
      have := blocks_le b c
      exact ⟨by omega, sumsOk_range b c l 0 h⟩
    · rw [if_neg h1] at h; simp at h
theorem putMan_length (out : List Int) (a b c : Int) (l : List S66) : (putMan out a b c l).length ≤ out.length + 500 := by
  unfold putMan
  by_cases h : manOk a b c l = true
  · rw [if_pos h]
    have h1 := (manOk_in h).1
    have h2 := putSums_length l (putVar (putVar (putVar out a) b) c)
    have h3 := putVar_length (putVar (putVar out a) b) c
    have h4 := putVar_length (putVar out a) b
    have h5 := putVar_length out a
    omega
  · rw [if_neg h]; omega
theorem spec_PutMan_l (a b c : Int) (m : List S66) (hm : m.length ≤ 1000000000000) (hx : ∀ x ∈ m, 0 ≤ x.f1 ∧ x.f1 < 9223372036854775808) (d : Nat) : ∀ (k : Nat) (out : List Int) (i : Nat), i ≤ m.length → m.length - i = d → d + 30 < k → out.length + 9 * d ≤ 140737488350000 →
    spec_PutMan.l0 k out (i : Int) a b c m = some (putSums out (m.drop i)) := by
  induction d with
  | zero =>
    intro k out i hi hd hk ho
    obtain ⟨k, rfl⟩ : ∃ m, k = m + 1 := ⟨k - 1, by omega⟩
    simp only [spec_PutMan.l0]
    rw [if_neg (by omega), List.drop_eq_nil_of_le (by omega)]; rfl
  | succ d ih =>
    intro k out i hi hd hk ho
    obtain ⟨k, rfl⟩ : ∃ m, k = m + 1 := ⟨k - 1, by omega⟩
    have hlt : i < m.length := by omega
    have hr := hx _ (List.getElem_mem hlt)
    have hv := vr_length 8 (m[i]).f1
    simp only [spec_PutMan.l0]
    rw [if_pos (by omega), if_pos (by omega), rd_S hlt, spec_l6PutSum_v (by omega) hr.1 hr.2 (by omega), Option.bind_some, List.drop_eq_getElem_cons hlt, putSums, wnat (by omega)]
    exact ih k _ (i + 1) (by omega) (by omega) (by omega) (by rw [List.length_append]; omega)
theorem spec_PutMan_v {k : Nat} {out : List Int} (ho : out.length ≤ 1000000000000) (a b c : Int) {l : List S66} (hl : l.length ≤ 1000000000000) (hk : l.length + 100 < k) : spec_PutMan.f k out a b c l = some (putMan out a b c l) := by
  unfold spec_PutMan.f putMan
  simp only [Option.bind_some, List.length_nil, List.nil_append]
  rw [if_pos (by omega), spec_ManOk_v a b c (by omega) (by omega), Option.bind_some]
  by_cases h : manOk a b c l = true
  · obtain ⟨h1, h2⟩ := manOk_in h
    have h3 := putVar_length (putVar (putVar out a) b) c
    have h4 := putVar_length (putVar out a) b
    have h5 := putVar_length out a
    rw [if_pos h, if_pos h, spec_PutVar_v (by omega) a (by omega), Option.bind_some, spec_PutVar_v (by omega) b (by omega), Option.bind_some, spec_PutVar_v (by omega) c (by omega), Option.bind_some]
    exact spec_PutMan_l a b c l hl h2 l.length k _ 0 (by omega) (by omega) (by omega) (by omega)
  · rw [if_neg h, if_neg h]

theorem impl_PutMan_l (m : List S66) (hm : m.length ≤ 1000000000000) (hx : ∀ x ∈ m, 0 ≤ x.f1 ∧ x.f1 < 9223372036854775808) (d : Nat) : ∀ (k : Nat) (out : List Int) (i : Nat), i ≤ m.length → m.length - i = d → d + 30 < k → out.length + 9 * d ≤ 140737488350000 →
    impl_PutMan.l0 k out m (m.length : Int) (i : Int) = some (putSums out (m.drop i)) := by
  induction d with
  | zero =>
    intro k out i hi hd hk ho
    obtain ⟨k, rfl⟩ : ∃ m, k = m + 1 := ⟨k - 1, by omega⟩
    simp only [impl_PutMan.l0]
    rw [if_neg (by omega), List.drop_eq_nil_of_le (by omega)]; rfl
  | succ d ih =>
    intro k out i hi hd hk ho
    obtain ⟨k, rfl⟩ : ∃ m, k = m + 1 := ⟨k - 1, by omega⟩
    have hlt : i < m.length := by omega
    have hr := hx _ (List.getElem_mem hlt)
    have hv := vr_length 8 (m[i]).f1
    simp only [impl_PutMan.l0]
    rw [if_pos (by omega), if_pos (by omega), if_pos (by omega), rd_S hlt, impl_appendVar_v (by omega) hr.1 hr.2 (by omega), Option.bind_some, List.drop_eq_getElem_cons hlt, putSums, wnat (by omega)]
    exact ih k _ (i + 1) (by omega) (by omega) (by omega) (by rw [List.length_append]; omega)
theorem impl_PutMan_v {k : Nat} {out : List Int} (ho : out.length ≤ 1000000000000) (a b c : Int) {l : List S66} (hl : l.length ≤ 1000000000000) (hk : l.length + 100 < k) : impl_PutMan.f k out a b c l = some (putMan out a b c l) := by
  unfold impl_PutMan.f putMan
  rw [impl_ManOk_v a b c (by omega) (by omega), Option.bind_some]
  by_cases h : manOk a b c l = true
  · obtain ⟨h1, h2⟩ := manOk_in h
    have h3 := putVar_length (putVar (putVar out a) b) c
    have h4 := putVar_length (putVar out a) b
    have h5 := putVar_length out a
    rw [if_pos h, if_pos h, impl_PutVar_v (by omega) a (by omega), Option.bind_some, impl_PutVar_v (by omega) b (by omega), Option.bind_some, impl_PutVar_v (by omega) c (by omega), Option.bind_some]
    exact impl_PutMan_l l hl h2 l.length k _ 0 (by omega) (by omega) (by omega) (by omega)
  · rw [if_neg h, if_neg h, impl_cloned_v (by omega)]; rfl

theorem FnExactPutMan (b : List Int) (c0 c1 c2 : Int) (l : List S95) (hm' : b.length ≤ maxLen) (hw : ∀ n ∈ b, (Lit.int .u8 n).wf = true) (hm : l.length ≤ maxLen) : ∃ k, laws_FnExactPutMan.f k b c0 c1 c2 l = some true := by
  refine exists_ge 3048880 _ (fun k hk => ?_)
  unfold laws_FnExactPutMan.f
  by_cases hB : (b.length : Int) > 1048576
  · rw [if_pos hB]
  · rw [if_neg hB, laws_szManifest_v _ _ _ (by omega) (by omega) hm, Option.bind_some]
    by_cases hbig : (1048576 : Int) - (l.length : Int) < 0
    · rw [if_pos hbig, if_pos (by omega)]
    · rw [if_neg hbig, if_neg hbig]
      have ht : (toSs (ofLs l)).length = l.length := by rw [toSs_length, ofLs_length]
      have hs := putMan_length b c0 c1 c2 (toSs (ofLs l))
      obtain ⟨k, rfl⟩ : ∃ m, k = m + 3 := ⟨k - 3, by omega⟩
      have n1 : ¬ (1 + (b.length : Int) + 2 * ((toSs (ofLs l)).length : Int) < 0) := by omega
      have n2 : ¬ (1 + ((putMan b c0 c1 c2 (toSs (ofLs l))).length : Int) < 0) := by omega
      simp (disch := omega) only [laws_toManifest_v, laws_toByteS_v, spec_PutMan_v, impl_PutMan_v, laws_eqManifest_v, laws_eqByteS_v, laws_markByteS_v, laws_markManifest_v, laws_heldByteS_v, n1, n2, Option.bind_some, decide_true, if_true, if_false, bne_self_eq_false, Bool.false_eq_true, Bool.not_true, Bool.not_false]
      simp only [laws_FnExactPutMan.j0, Bool.false_eq_true, if_false]
      simp (disch := omega) only [laws_toManifest_v, laws_toByteS_v, spec_PutMan_v, impl_PutMan_v, laws_eqManifest_v, laws_eqByteS_v, laws_markByteS_v, laws_markManifest_v, laws_heldByteS_v, n1, n2, Option.bind_some, decide_true, if_true, if_false, bne_self_eq_false, Bool.false_eq_true, Bool.not_true, Bool.not_false]

end Go.Proofs.Ytdkgcloempbgpaa.Pure
