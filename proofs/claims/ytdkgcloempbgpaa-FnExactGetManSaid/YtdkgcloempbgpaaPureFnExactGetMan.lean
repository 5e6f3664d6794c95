/- GetMan returns what the reference's GetMan returns, in memory of its own, and leaves its arguments as they were, for all arguments; no condition. -/
import Derived.Test.YtdkgcloempbgpaaPFnExactGetManx11
import Derived.Test.YtdkgcloempbgpaaLib
set_option linter.unusedVariables false
set_option linter.unusedSimpArgs false
namespace Go.Proofs.Ytdkgcloempbgpaa.Pure
open Go.RowKit Go.Proofs.Ytdkgcloempbgpaa.PFnExactGetMan Go.Proofs.YtdkgcloempbgpaaW.PrintWords Go.Proofs.YtdkgcloempbgpaaW.PrintLast Go.Proofs.YtdkgcloempbgpaaW.PrintMore Go.Proofs.Ytdkgcloempbgpaa.Lib

instance : DecidableEq S66 := fun a b => decidable_of_iff (a.f0 = b.f0 ∧ a.f1 = b.f1) ⟨fun h => by cases a; cases b; simp_all, fun h => by rw [h]; exact ⟨rfl, rfl⟩⟩
def toS (p : Int × Int) : S66 := ⟨p.1, p.2⟩
def toSs (l : List (Int × Int)) : List S66 := l.map toS
theorem toS_inj {p q : Int × Int} (h : toS p = toS q) : p = q := by
  have h1 := congrArg S66.f0 h
  have h2 := congrArg S66.f1 h
  exact Prod.ext h1 h2
theorem toSs_inj {l m : List (Int × Int)} (h : toSs l = toSs m) : l = m := (List.map_inj_right (fun p q hq => toS_inj hq)).1 h
theorem toSs_length (l : List (Int × Int)) : (toSs l).length = l.length := by simp [toSs]
theorem toSs_onto (l : List S66) : ∃ m, l = toSs m ∧ m.length = l.length := ⟨l.map fun s => (s.f0, s.f1), by
  induction l with
  | nil => rfl
  | cons s l ih => simp only [List.map_cons, toSs] at ih ⊢; rw [← ih]; rfl, by simp⟩
theorem rd_S {l : List S66} {i : Nat} (h : i < l.length) : rd_T66 l (i : Int) = l[i] := by
  unfold rd_T66
  rw [Int.toNat_natCast, List.getD_eq_getElem?_getD, List.getElem?_eq_getElem h]; rfl
theorem drop_eq_iffS {a b : List S66} {i : Nat} (ha : i < a.length) (hb : i < b.length) : (a.drop i = b.drop i) ↔ (a[i] = b[i] ∧ a.drop (i + 1) = b.drop (i + 1)) := by
  rw [List.drop_eq_getElem_cons ha, List.drop_eq_getElem_cons hb, List.cons.injEq]
theorem S_eq_iff {a b : S66} : (a.f0, a.f1) = (b.f0, b.f1) ↔ a = b := by cases a; cases b; simp

theorem spec_l1In_v (a b c : Int) : spec_l1In.f a b c = some (decide (b ≤ a ∧ a ≤ c)) := by
  unfold spec_l1In.f
  by_cases h : b ≤ a
  · rw [if_pos h]; simp [h]
  · rw [if_neg h]; simp [h]

theorem impl_within_v (a b c : Int) : impl_within.f a b c = some (decide (b ≤ a ∧ a ≤ c)) := by
  unfold impl_within.f
  by_cases h : b ≤ a
  · rw [if_pos h]; simp [h]
  · rw [if_neg h]; simp [h]

theorem laws_toByteS_l (l : List Int) (hl : l.length ≤ 140737488351232) (d : Nat) : ∀ (k : Nat) (out : List Int) (i : Nat), out.length = l.length → i ≤ l.length → l.length - i = d → d < k →
    (∀ j, j < i → out[j]? = l[j]?) → laws_toByteS.l0 k l out (i : Int) = some l := by
  induction d with
  | zero =>
    intro k out i ho hi hd hk hj
    obtain ⟨k, rfl⟩ : ∃ m, k = m + 1 := ⟨k - 1, by omega⟩
    simp only [laws_toByteS.l0]
    rw [if_neg (by omega)]
    congr 1
    apply List.ext_getElem?
    intro j
    by_cases hjl : j < i
    · exact hj j hjl
    · rw [List.getElem?_eq_none (by omega), List.getElem?_eq_none (by omega)]
  | succ d ih =>
    intro k out i ho hi hd hk hj
    obtain ⟨k, rfl⟩ : ∃ m, k = m + 1 := ⟨k - 1, by omega⟩
    simp only [laws_toByteS.l0]
    rw [if_pos (by omega), if_pos (by omega), if_pos (by omega), wnat (by omega), rd_at (by omega : i < l.length)]
    refine ih k _ (i + 1) (by simp [ho]) (by omega) (by omega) (by omega) (fun j h => ?_)
    rw [Int.toNat_natCast, List.getElem?_set]
    by_cases e : i = j
    · subst e; rw [if_pos rfl, if_pos (by omega), List.getElem?_eq_getElem]
    · rw [if_neg e]; exact hj j (by omega)
theorem laws_toByteS_v {k : Nat} {l : List Int} (hl : l.length ≤ 140737488351232) (hk : l.length < k) : laws_toByteS.f k l = some l := by
  unfold laws_toByteS.f
  rw [if_pos (by omega), if_pos (by omega)]
  exact laws_toByteS_l l hl l.length k _ 0 (by simp) (by omega) (by omega) hk (fun j h => by omega)

theorem laws_eqByteS_l (a b : List Int) (hab : a.length = b.length) (hl : a.length ≤ 140737488355328) (d : Nat) : ∀ (k : Nat) (i : Nat), i ≤ a.length → a.length - i = d → d < k →
    laws_eqByteS.l0 k a b (i : Int) = some (decide (a.drop i = b.drop i)) := by
  induction d with
  | zero =>
    intro k i hi hd hk
    obtain ⟨k, rfl⟩ : ∃ m, k = m + 1 := ⟨k - 1, by omega⟩
    simp only [laws_eqByteS.l0]
    rw [if_neg (by omega), List.drop_eq_nil_of_le (by omega), List.drop_eq_nil_of_le (by omega)]
    rfl
  | succ d ih =>
    intro k i hi hd hk
    obtain ⟨k, rfl⟩ : ∃ m, k = m + 1 := ⟨k - 1, by omega⟩
    simp only [laws_eqByteS.l0]
    rw [if_pos (by omega), if_pos (by omega), if_pos (by omega), wnat (by omega), rd_at (by omega : i < a.length), rd_at (by omega : i < b.length), ih k (i + 1) (by omega) (by omega) (by omega)]
    have e := drop_eq_iff (a := a) (b := b) (i := i) (by omega) (by omega)
    by_cases h : a[i]'(by omega) = b[i]'(by omega)
    · rw [if_pos h]; simp only [e, h, true_and]
    · rw [if_neg h]; simp only [e, h, false_and, decide_false]
theorem laws_eqByteS_v {k : Nat} {a b : List Int} (hl : a.length ≤ 140737488355328) (hk : a.length < k) : laws_eqByteS.f k a b = some (decide (a = b)) := by
  unfold laws_eqByteS.f
  by_cases h : a.length = b.length
  · rw [if_pos (by omega)]
    exact laws_eqByteS_l a b h hl a.length k 0 (by omega) (by omega) hk
  · rw [if_neg (by omega)]
    have : a ≠ b := fun e => h (by rw [e])
    simp [this]

theorem impl_Wrap_v {a m : Int} (h0 : 1 ≤ m) (h1 : m ≤ 1000000000000) : impl_Wrap.f a m = some (a % m) := by
  unfold impl_Wrap.f
  rw [impl_within_v, Option.bind_some, decide_eq_true (by omega), if_pos rfl, if_neg (by omega)]
  have h2 : a.tmod m = a - m * a.tdiv m := by have := Int.mul_tdiv_add_tmod a m; omega
  have h3 : -m < a.tmod m ∧ a.tmod m < m := ⟨by have := Int.lt_tmod_of_pos a (by omega : 0 < m); omega, Int.tmod_lt_of_pos a (by omega)⟩
  rw [w64 (by omega) (by omega), tmod_nn (by omega), Int.add_emod_right, h2, Int.sub_mul_emod_self_left]

theorem impl_weak_v (x y : Int) : impl_weak.f x y = some (x % 251 + 251 * (y % 251)) := by
  unfold impl_weak.f
  rw [impl_Wrap_v (by omega) (by omega), impl_Wrap_v (by omega) (by omega)]
  simp only [Option.bind_some]
  rw [w64 (x := 251 * (y % 251)) (by omega) (by omega), w64 (by omega) (by omega)]

theorem spec_WeakOf_l (l : List Int) (hb : Byt l) (hl : l.length ≤ 140737488351232) (d : Nat) : ∀ (k : Nat) (i : Nat), i ≤ l.length → l.length - i = d → d < k →
    spec_WeakOf.l0 k l (sx (l.take i) % 251) (sy (l.take i) % 251) (i : Int) = some (weakOf l) := by
  induction d with
  | zero =>
    intro k i hi hd hk
    obtain ⟨k, rfl⟩ : ∃ m, k = m + 1 := ⟨k - 1, by omega⟩
    simp only [spec_WeakOf.l0]
    rw [if_neg (by omega), List.take_of_length_le (by omega), w64 (x := 251 * (sy l % 251)) (by omega) (by omega), w64 (by omega) (by omega)]
    rfl
  | succ d ih =>
    intro k i hi hd hk
    obtain ⟨k, rfl⟩ : ∃ m, k = m + 1 := ⟨k - 1, by omega⟩
    simp only [spec_WeakOf.l0]
    have hc := hb l[i] (List.getElem_mem (by omega))
    rw [if_pos (by omega), if_pos (by omega), wnat (by omega), rd_at (by omega : i < l.length), w64 (x := l[i]) (by omega) (by omega), w64 (by omega) (by omega), tmod_nn (by omega), w64 (by omega) (by omega), tmod_nn (by omega)]
    have e : l.take (i + 1) = l.take i ++ [l[i]] := List.take_succ_eq_append_getElem (by omega)
    have := ih k (i + 1) (by omega) (by omega) (by omega)
    rw [e, sx_snoc, sy_snoc] at this
    rw [show (sx (l.take i) % 251 + l[i]) % 251 = (sx (l.take i) + l[i]) % 251 from by omega, show (sy (l.take i) % 251 + (sx (l.take i) + l[i]) % 251) % 251 = (sy (l.take i) + sx (l.take i) + l[i]) % 251 from by omega]
    exact this
theorem spec_WeakOf_v {k : Nat} {l : List Int} (hb : Byt l) (hl : l.length ≤ 140737488351232) (hk : l.length < k) : spec_WeakOf.f k l = some (weakOf l) := by
  unfold spec_WeakOf.f
  exact spec_WeakOf_l l hb hl l.length k 0 (by omega) (by omega) hk

theorem impl_WeakOf_l (l : List Int) (hb : Byt l) (hl : l.length ≤ 140737488351232) (d : Nat) : ∀ (k : Nat) (i : Nat), i ≤ l.length → l.length - i = d → d < k →
    impl_WeakOf.l0 k (sx (l.take i) % 251) (sy (l.take i) % 251) l (l.length : Int) (i : Int) = some (weakOf l) := by
  induction d with
  | zero =>
    intro k i hi hd hk
    obtain ⟨k, rfl⟩ : ∃ m, k = m + 1 := ⟨k - 1, by omega⟩
    simp only [impl_WeakOf.l0]
    rw [if_neg (by omega), impl_weak_v, List.take_of_length_le (by omega)]
    simp only [Option.bind_some, weakOf, Int.emod_emod]
  | succ d ih =>
    intro k i hi hd hk
    obtain ⟨k, rfl⟩ : ∃ m, k = m + 1 := ⟨k - 1, by omega⟩
    simp only [impl_WeakOf.l0]
    have hc := hb l[i] (List.getElem_mem (by omega))
    rw [if_pos (by omega), if_pos (by omega), if_pos (by omega), wnat (by omega), rd_at (by omega : i < l.length), w64 (x := l[i]) (by omega) (by omega), w64 (by omega) (by omega), tmod_nn (by omega), w64 (by omega) (by omega), tmod_nn (by omega)]
    have e : l.take (i + 1) = l.take i ++ [l[i]] := List.take_succ_eq_append_getElem (by omega)
    have := ih k (i + 1) (by omega) (by omega) (by omega)
    rw [e, sx_snoc, sy_snoc] at this
    rw [show (sx (l.take i) % 251 + l[i]) % 251 = (sx (l.take i) + l[i]) % 251 from by omega, show (sy (l.take i) % 251 + (sx (l.take i) + l[i]) % 251) % 251 = (sy (l.take i) + sx (l.take i) + l[i]) % 251 from by omega]
    exact this
theorem impl_WeakOf_v {k : Nat} {l : List Int} (hb : Byt l) (hl : l.length ≤ 140737488351232) (hk : l.length < k) : impl_WeakOf.f k l = some (weakOf l) := by
  unfold impl_WeakOf.f
  exact impl_WeakOf_l l hb hl l.length k 0 (by omega) (by omega) hk

theorem spec_SizeOk_v (s n : Int) : spec_SizeOk.f s n = some (sizeOk s n) := by
  unfold spec_SizeOk.f sizeOk
  rw [spec_l1In_v]
  simp only [Option.bind_some]
  by_cases h : 2 ≤ s ∧ s ≤ 6
  · rw [decide_eq_true h, if_pos rfl, spec_l1In_v, w64 (by omega) (by omega)]
    simp [h]
  · rw [decide_eq_false h, if_neg (by decide)]
    have : ¬ (2 ≤ s ∧ s ≤ 6 ∧ 0 ≤ n ∧ n ≤ s * 40) := fun g => h ⟨g.1, g.2.1⟩
    rw [decide_eq_false this]

theorem impl_SizeOk_v (s n : Int) : impl_SizeOk.f s n = some (sizeOk s n) := by
  unfold impl_SizeOk.f sizeOk
  rw [impl_within_v]
  simp only [Option.bind_some]
  by_cases h : 2 ≤ s ∧ s ≤ 6
  · rw [decide_eq_true h, if_pos rfl, impl_within_v, Int.mul_comm 40 s, w64 (by omega) (by omega)]
    simp [h]
  · rw [decide_eq_false h, if_neg (by decide)]
    have : ¬ (2 ≤ s ∧ s ≤ 6 ∧ 0 ≤ n ∧ n ≤ s * 40) := fun g => h ⟨g.1, g.2.1⟩
    rw [decide_eq_false this]

theorem spec_CeilDiv_v {a b : Int} (h0 : 0 ≤ a) (h1 : a ≤ 1000000000000) (h2 : 1 ≤ b) (h3 : b ≤ 1000000000000) : spec_CeilDiv.f a b = some ((a + b - 1) / b) := by
  unfold spec_CeilDiv.f
  rw [spec_l1In_v, Option.bind_some, decide_eq_true (by omega), if_pos rfl, spec_l1In_v, Option.bind_some, decide_eq_true (by omega), if_pos rfl, if_neg (by omega), w64 (x := a + b) (by omega) (by omega), w64 (x := a + b - 1) (by omega) (by omega), tdiv_nn (by omega)]
  have h4 : 0 ≤ (a + b - 1) / b := Int.ediv_nonneg (by omega) (by omega)
  have h5 : (a + b - 1) / b ≤ a + b - 1 := Int.ediv_le_self _ (by omega)
  rw [w64 (by omega) (by omega)]

theorem impl_CeilDiv_v {a b : Int} (h0 : 0 ≤ a) (h1 : a ≤ 1000000000000) (h2 : 1 ≤ b) (h3 : b ≤ 1000000000000) : impl_CeilDiv.f a b = some ((a + b - 1) / b) := by
  unfold impl_CeilDiv.f
  rw [impl_within_v, Option.bind_some, decide_eq_true (by omega), if_pos rfl, impl_within_v, Option.bind_some, decide_eq_true (by omega), if_pos rfl, if_neg (by omega), w64 (x := a + b) (by omega) (by omega), w64 (x := a + b - 1) (by omega) (by omega), tdiv_nn (by omega)]
  have h4 : 0 ≤ (a + b - 1) / b := Int.ediv_nonneg (by omega) (by omega)
  have h5 : (a + b - 1) / b ≤ a + b - 1 := Int.ediv_le_self _ (by omega)
  rw [w64 (by omega) (by omega)]

theorem spec_Blocks_v (s n : Int) : spec_Blocks.f s n = some (blocks s n) := by
  unfold spec_Blocks.f blocks
  rw [spec_SizeOk_v, Option.bind_some]
  by_cases h : sizeOk s n = true
  · obtain ⟨h0, h1, h2, h3⟩ := sizeOk_iff.1 h
    rw [if_pos h, if_pos h, spec_CeilDiv_v (by omega) (by omega) (by omega) (by omega)]
    rfl
  · rw [if_neg h, if_neg h]

theorem impl_Blocks_v (s n : Int) : impl_Blocks.f s n = some (blocks s n) := by
  unfold impl_Blocks.f blocks
  rw [impl_SizeOk_v, Option.bind_some]
  by_cases h : sizeOk s n = true
  · obtain ⟨h0, h1, h2, h3⟩ := sizeOk_iff.1 h
    rw [if_pos h, if_pos h, impl_CeilDiv_v (by omega) (by omega) (by omega) (by omega)]
    rfl
  · rw [if_neg h, if_neg h]

theorem spec_Least_v (a b : Int) : spec_Least.f a b = some (mn a b) := by
  unfold spec_Least.f mn
  by_cases h : b < a
  · rw [if_pos h, if_pos h]
  · rw [if_neg h, if_neg h]

theorem spec_SpanOf_v (s n i : Int) : spec_SpanOf.f s n i = some (spanOf s n i) := by
  unfold spec_SpanOf.f spanOf
  rw [spec_Blocks_v, Option.bind_some, spec_l1In_v, Option.bind_some]
  have hb := blocks_le s n
  rw [w64 (x := blocks s n - 1) (by omega) (by omega)]
  by_cases h : 0 ≤ i ∧ i ≤ blocks s n - 1
  · obtain ⟨h0, h1, h2, h3, h4, h5, h6⟩ := span_in h.1 h.2
    rw [decide_eq_true h, if_pos rfl, if_pos h, spec_Least_v, Option.bind_some, w64 (x := i * s) (by omega) (by omega), w64 (by omega) (by omega)]
  · rw [decide_eq_false h, if_neg (by decide), if_neg h]

theorem impl_SpanOf_v (s n i : Int) : impl_SpanOf.f s n i = some (spanOf s n i) := by
  unfold impl_SpanOf.f spanOf
  rw [impl_Blocks_v, Option.bind_some, impl_within_v, Option.bind_some]
  have hb := blocks_le s n
  rw [w64 (x := blocks s n - 1) (by omega) (by omega)]
  by_cases h : 0 ≤ i ∧ i ≤ blocks s n - 1
  · obtain ⟨h0, h1, h2, h3, h4, h5, h6⟩ := span_in h.1 h.2
    rw [decide_eq_true h, if_pos rfl, if_pos h, w64 (x := i * s) (by omega) (by omega), w64 (by omega) (by omega)]
  · rw [decide_eq_false h, if_neg (by decide), if_neg h]

theorem laws_markByteS_l (c : Int) (n : Nat) (hc : 0 ≤ c) (hl : c + n ≤ 4611686018427387904) (d : Nat) : ∀ (k : Nat) (x : List Int) (i : Nat), x.length = n → i ≤ n → n - i = d → d < k →
    (∀ j, j < i → x[j]? = (markB c n)[j]?) → laws_markByteS.l0 k x (c + (i : Int)) (i : Int) = some (c + (n : Int), markB c n) := by
  induction d with
  | zero =>
    intro k x i hx hi hd hk hj
    obtain ⟨k, rfl⟩ : ∃ m, k = m + 1 := ⟨k - 1, by omega⟩
    simp only [laws_markByteS.l0]
    rw [if_neg (by omega), ext_all hx (markB_length c n) (fun j h => hj j (by omega)), show i = n from by omega]
  | succ d ih =>
    intro k x i hx hi hd hk hj
    obtain ⟨k, rfl⟩ : ∃ m, k = m + 1 := ⟨k - 1, by omega⟩
    simp only [laws_markByteS.l0]
    rw [if_pos (by omega), if_pos (by omega), wnat (by omega), w64 (by omega) (by omega), show c + (i : Int) + 1 = c + ((i + 1 : Nat) : Int) from by omega]
    exact ih k _ (i + 1) (by simp [hx]) (by omega) (by omega) (by omega) (set_step (by omega) hj (markB_get c n i (by omega)))
theorem laws_markByteS_v {k : Nat} {x : List Int} {c : Int} (hc : 0 ≤ c) (hl : c + x.length ≤ 4611686018427387904) (hk : x.length < k) : laws_markByteS.f k x c = some (c + (x.length : Int), markB c x.length) := by
  unfold laws_markByteS.f
  have h := laws_markByteS_l c x.length hc hl x.length k x 0 rfl (by omega) (by omega) hk (fun j h => by omega)
  rw [show c + ((0 : Nat) : Int) = c from by omega] at h
  exact h

theorem spec_GetVar_l (l : List Int) (hb : Byt l) (hl : l.length ≤ 140737488351232) (a : Int) (ha0 : -9223372036854775808 ≤ a) (ha1 : a ≤ 9223372036854775807) (d : Nat) : ∀ (k j : Nat) (n : Int), j + d = 6 → 0 ≤ n → n < 128 ^ j → 2 * d + 1 < k →
    spec_GetVar.l0 k l a n (j : Int) = some (if (rdv l a d j n).2.2 = true ∧ (rdv l a d j n).1 ≤ 1000000000000 then rdv l a d j n else (0, 0, false)) := by
  induction d with
  | zero =>
    intro k j n hj hn0 hn hk
    obtain ⟨k, rfl⟩ : ∃ m, k = m + 1 := ⟨k - 1, by omega⟩
    simp only [spec_GetVar.l0]
    rw [if_neg (by omega)]
    simp [rdv]
  | succ d ih =>
    intro k j n hj hn0 hn hk
    obtain ⟨k, rfl⟩ : ∃ m, k = m + 2 := ⟨k - 2, by omega⟩
    simp only [spec_GetVar.l0]
    rw [if_pos (by omega)]
    by_cases hin : 0 ≤ a ∧ a + (j : Int) < (l.length : Int)
    · have hx := rd_byt hb (a + (j : Int))
      rw [if_neg (by omega), w64 (x := (l.length : Int) - j) (by omega) (by omega), decide_eq_false (by omega)]
      simp only [spec_GetVar.j1]
      have hs := var_step (j := j) n (rd l (a + (j : Int)) % 128) hn0 hn (by omega) (by omega)
      rw [if_neg (by decide), w64 (x := a + (j : Int)) (by omega) (by omega), if_pos (by omega), if_pos (by omega), w64 (x := 7 * (j : Int)) (by omega) (by omega), if_pos (by omega), w64 (x := rd l (a + (j : Int))) (by omega) (by omega),
        and127 hx.1 hx.2, shl7 (by omega) (by omega) (by omega), orVar (by omega) hn0 hn (by omega) (by omega)]
      rw [rdv, if_pos hin]
      by_cases h128 : rd l (a + (j : Int)) < 128
      · rw [if_pos h128, if_pos h128]
        have e : rd l (a + (j : Int)) % 128 = rd l (a + (j : Int)) := by omega
        rw [e] at hs ⊢
        rw [w64 (x := a + (j : Int) + 1) (by omega) (by omega)]
        by_cases h0 : rd l (a + (j : Int)) = 0
        · rw [if_pos h0]
          by_cases hj0 : (j : Int) > 0
          · rw [if_pos hj0, if_neg]
            rintro ⟨h, _⟩
            have := of_decide_eq_true h
            omega
          · rw [if_neg hj0]
            have hd : decide (j = 0 ∨ 0 < rd l (a + (j : Int))) = true := decide_eq_true (Or.inl (by omega))
            simp only [hd, true_and]
            by_cases hg : n + rd l (a + (j : Int)) * 128 ^ j > 1000000000000
            · rw [if_pos hg, if_neg (by omega)]
            · rw [if_neg hg, if_pos (by omega)]
        · rw [if_neg h0]
          have hd : decide (j = 0 ∨ 0 < rd l (a + (j : Int))) = true := decide_eq_true (Or.inr (by omega))
          simp only [hd, true_and]
          by_cases hg : n + rd l (a + (j : Int)) * 128 ^ j > 1000000000000
          · rw [if_pos hg, if_neg (by omega)]
          · rw [if_neg hg, if_pos (by omega)]
      · rw [if_neg h128, if_neg h128]
        have e : rd l (a + (j : Int)) % 128 = rd l (a + (j : Int)) - 128 := by omega
        rw [e] at hs ⊢
        rw [w64 (x := (j : Int) + 1) (by omega) (by omega)]
        exact ih k (j + 1) _ (by omega) hs.1 hs.2 (by omega)
    · rw [rdv, if_neg hin]
      have hr : (if ((0, 0, false) : Int × Int × Bool).2.2 = true ∧ ((0, 0, false) : Int × Int × Bool).1 ≤ 1000000000000 then ((0, 0, false) : Int × Int × Bool) else (0, 0, false)) = (0, 0, false) := by simp
      rw [hr]
      by_cases hneg : a < 0
      · rw [if_pos hneg]; simp [spec_GetVar.j1]
      · rw [if_neg hneg, w64 (x := (l.length : Int) - j) (by omega) (by omega), decide_eq_true (by omega)]; simp [spec_GetVar.j1]
theorem spec_GetVar_v {k : Nat} {l : List Int} (hb : Byt l) (hl : l.length ≤ 140737488351232) {a : Int} (ha0 : -9223372036854775808 ≤ a) (ha1 : a ≤ 9223372036854775807) (hk : 20 < k) : spec_GetVar.f k l a = some (getVar l a) := by
  unfold spec_GetVar.f
  exact spec_GetVar_l l hb hl a ha0 ha1 6 k 0 0 (by omega) (by omega) (by decide) (by omega)

theorem impl_readVar_l (l : List Int) (hb : Byt l) (hl : l.length ≤ 140737488351232) (a : Int) (ha0 : -9223372036854775808 ≤ a) (ha1 : a ≤ 9223372036854775807) (most : Nat) (hm : most ≤ 8) (d : Nat) : ∀ (k j : Nat) (n : Int), j + d = most → 0 ≤ n → n < 128 ^ j → d < k →
    impl_readVar.l0 k l a n (most : Int) (j : Int) = some (rdv l a d j n) := by
  induction d with
  | zero =>
    intro k j n hj hn0 hn hk
    obtain ⟨k, rfl⟩ : ∃ m, k = m + 1 := ⟨k - 1, by omega⟩
    simp only [impl_readVar.l0]
    rw [if_neg (by omega)]
    simp [rdv]
  | succ d ih =>
    intro k j n hj hn0 hn hk
    obtain ⟨k, rfl⟩ : ∃ m, k = m + 1 := ⟨k - 1, by omega⟩
    simp only [impl_readVar.l0]
    rw [if_pos (by omega), impl_within_v, Option.bind_some, w64 (x := (l.length : Int) - 1) (by omega) (by omega), w64 (x := (l.length : Int) - 1 - j) (by omega) (by omega)]
    by_cases hin : 0 ≤ a ∧ a + (j : Int) < (l.length : Int)
    · have hx := rd_byt hb (a + (j : Int))
      have hs := var_step (j := j) n (rd l (a + (j : Int)) % 128) hn0 hn (by omega) (by omega)
      rw [if_pos (decide_eq_true (by omega)), w64 (x := a + (j : Int)) (by omega) (by omega), if_pos (by omega), if_pos (by omega), w64 (x := 7 * (j : Int)) (by omega) (by omega), if_pos (by omega), w64 (x := rd l (a + (j : Int))) (by omega) (by omega),
        and127 hx.1 hx.2, shl7 (by omega) (by omega) (by omega), orVar (by omega) hn0 hn (by omega) (by omega)]
      rw [rdv, if_pos hin]
      by_cases h128 : rd l (a + (j : Int)) < 128
      · rw [if_pos h128, if_pos h128]
        have e : rd l (a + (j : Int)) % 128 = rd l (a + (j : Int)) := by omega
        rw [e, w64 (x := a + (j : Int) + 1) (by omega) (by omega)]
        by_cases hj0 : (j : Int) = 0
        · rw [if_pos hj0]
          have hd : decide (j = 0 ∨ 0 < rd l (a + (j : Int))) = true := decide_eq_true (Or.inl (by omega))
          rw [hd]
        · rw [if_neg hj0]
          have hj1 : ¬ j = 0 := by omega
          simp [hj1]
      · rw [if_neg h128, if_neg h128]
        have e : rd l (a + (j : Int)) % 128 = rd l (a + (j : Int)) - 128 := by omega
        rw [e] at hs ⊢
        rw [w64 (x := (j : Int) + 1) (by omega) (by omega)]
        exact ih k (j + 1) _ (by omega) hs.1 hs.2 (by omega)
    · rw [if_neg (by simp; omega), rdv, if_neg hin]
theorem impl_readVar_v {k : Nat} {l : List Int} (hb : Byt l) (hl : l.length ≤ 140737488351232) {a : Int} (ha0 : -9223372036854775808 ≤ a) (ha1 : a ≤ 9223372036854775807) {most : Nat} (hm : most ≤ 8) (hk : 20 < k) : impl_readVar.f k l a (most : Int) = some (rdv l a most 0 0) := by
  unfold impl_readVar.f
  exact impl_readVar_l l hb hl a ha0 ha1 most hm most k 0 0 (by omega) (by omega) (by decide) (by omega)

theorem impl_GetVar_v {k : Nat} {l : List Int} (hb : Byt l) (hl : l.length ≤ 140737488351232) {a : Int} (ha0 : -9223372036854775808 ≤ a) (ha1 : a ≤ 9223372036854775807) (hk : 20 < k) : impl_GetVar.f k l a = some (getVar l a) := by
  unfold impl_GetVar.f getVar
  have h := impl_readVar_v hb hl ha0 ha1 (by omega : 6 ≤ 8) hk
  rw [show ((6 : Nat) : Int) = 6 from rfl] at h
  rw [h, Option.bind_some]
  generalize rdv l a 6 0 0 = r
  by_cases h1 : r.2.2 = true
  · rw [if_pos h1]
    by_cases h2 : r.1 > 1000000000000
    · rw [if_pos h2, if_neg (by omega)]
    · rw [if_neg h2, if_pos ⟨h1, by omega⟩, ← h1]
  · rw [if_neg h1, if_neg (fun h => h1 h.1)]

theorem spec_BytesOf_ok (n : Nat) : ∀ (k : Nat) (s : Int) (out : List Int), n ≤ 6 → 256 ^ n ≤ s → s < 2 * 256 ^ n → out.length ≤ 100 - n → n < k → spec_BytesOf.l0 k s out = some (dg n s ++ out, true) := by
  induction n with
  | zero =>
    intro k s out hn h0 h1 ho hk
    obtain ⟨k, rfl⟩ : ∃ m, k = m + 1 := ⟨k - 1, by omega⟩
    simp only [spec_BytesOf.l0]
    rw [if_neg (by omega)]; rfl
  | succ n ih =>
    intro k s out hn h0 h1 ho hk
    obtain ⟨k, rfl⟩ : ∃ m, k = m + 1 := ⟨k - 1, by omega⟩
    have hp := pow256_pos n
    have hq : (256 : Int) ^ n ≤ 256 ^ 5 := by
      rcases (by omega : n = 0 ∨ n = 1 ∨ n = 2 ∨ n = 3 ∨ n = 4 ∨ n = 5) with rfl | rfl | rfl | rfl | rfl | rfl <;> decide
    rw [Int.pow_succ] at h0 h1
    simp only [spec_BytesOf.l0]
    rw [if_pos (by omega), if_neg (by omega), Option.bind_some, if_pos (by simp; omega), and255 (by omega) (by omega), Int.emod_emod, ih k _ _ (by omega) (by omega) (by omega) (by simp; omega) (by omega)]
    simp [dg]
theorem spec_BytesOf_no (n : Nat) : ∀ (k : Nat) (s : Int) (out : List Int), n ≤ 6 → 2 * 256 ^ n ≤ s → s < 256 ^ (n + 1) → out.length ≤ 100 - n → n < k → spec_BytesOf.l0 k s out = some ([], false) := by
  induction n with
  | zero =>
    intro k s out hn h0 h1 ho hk
    obtain ⟨k, rfl⟩ : ∃ m, k = m + 1 := ⟨k - 1, by omega⟩
    simp only [spec_BytesOf.l0]
    rw [if_pos (by omega), if_pos (by omega)]
  | succ n ih =>
    intro k s out hn h0 h1 ho hk
    obtain ⟨k, rfl⟩ : ∃ m, k = m + 1 := ⟨k - 1, by omega⟩
    have hp := pow256_pos n
    have hq : (256 : Int) ^ n ≤ 256 ^ 5 := by
      rcases (by omega : n = 0 ∨ n = 1 ∨ n = 2 ∨ n = 3 ∨ n = 4 ∨ n = 5) with rfl | rfl | rfl | rfl | rfl | rfl <;> decide
    rw [Int.pow_succ] at h0 h1
    rw [Int.pow_succ] at h1
    simp only [spec_BytesOf.l0]
    rw [if_pos (by omega), if_neg (by omega), Option.bind_some, if_pos (by simp; omega), and255 (by omega) (by omega), Int.emod_emod, ih k _ _ (by omega) (by omega) (by rw [Int.pow_succ]; omega) (by simp; omega) (by omega)]
theorem spec_BytesOf_v {k : Nat} (s : Int) (hk : 20 < k) : spec_BytesOf.f k s = some (bytesOfS s) := by
  unfold spec_BytesOf.f bytesOfS
  simp only [spec_l1In_v, Option.bind_some]
  by_cases h0 : 1 ≤ s ∧ s ≤ 562949953421311
  · have ok := fun (n : Nat) (h : n ≤ 6) h1 h2 => spec_BytesOf_ok n k s [] h h1 h2 (by simp) (by omega)
    have no := fun (n : Nat) (h : n ≤ 6) h1 h2 => spec_BytesOf_no n k s [] h h1 h2 (by simp) (by omega)
    rw [decide_eq_true h0, if_pos rfl, if_neg (by omega)]
    by_cases c1 : s < 2
    · rw [if_pos c1, ok 0 (by omega) (by omega) (by omega)]; rfl
    rw [if_neg c1]
    by_cases c2 : s < 256
    · rw [if_pos c2, no 0 (by omega) (by omega) (by omega)]
    rw [if_neg c2]
    by_cases c3 : s < 512
    · rw [if_pos c3, ok 1 (by omega) (by omega) (by omega), List.append_nil]
    rw [if_neg c3]
    by_cases c4 : s < 65536
    · rw [if_pos c4, no 1 (by omega) (by omega) (by omega)]
    rw [if_neg c4]
    by_cases c5 : s < 131072
    · rw [if_pos c5, ok 2 (by omega) (by omega) (by omega), List.append_nil]
    rw [if_neg c5]
    by_cases c6 : s < 16777216
    · rw [if_pos c6, no 2 (by omega) (by omega) (by omega)]
    rw [if_neg c6]
    by_cases c7 : s < 33554432
    · rw [if_pos c7, ok 3 (by omega) (by omega) (by omega), List.append_nil]
    rw [if_neg c7]
    by_cases c8 : s < 4294967296
    · rw [if_pos c8, no 3 (by omega) (by omega) (by omega)]
    rw [if_neg c8]
    by_cases c9 : s < 8589934592
    · rw [if_pos c9, ok 4 (by omega) (by omega) (by omega), List.append_nil]
    rw [if_neg c9]
    by_cases c10 : s < 1099511627776
    · rw [if_pos c10, no 4 (by omega) (by omega) (by omega)]
    rw [if_neg c10]
    by_cases c11 : s < 2199023255552
    · rw [if_pos c11, ok 5 (by omega) (by omega) (by omega), List.append_nil]
    rw [if_neg c11]
    by_cases c12 : s < 281474976710656
    · rw [if_pos c12, no 5 (by omega) (by omega) (by omega)]
    rw [if_neg c12, if_pos (by omega), ok 6 (by omega) (by omega) (by omega), List.append_nil]
  · rw [decide_eq_false h0, if_neg (by decide)]
    by_cases h1 : s < 1
    · rw [if_pos h1]
    · simp only [if_neg h1]
      repeat rw [if_neg (by omega)]

theorem impl_BytesOf_in (s : Int) (n : Nat) (hn : n ≤ 6) (d : Nat) : ∀ (k : Nat) (out : List Int) (i : Nat), out.length = n → i ≤ n → n - i = d → d < k → (∀ j, j < i → out[j]? = (dg n s)[j]?) →
    impl_BytesOf.l1 k s (n : Int) out (n : Int) (i : Int) = some (dg n s, true) := by
  induction d with
  | zero =>
    intro k out i ho hi hd hk hj
    obtain ⟨k, rfl⟩ : ∃ m, k = m + 1 := ⟨k - 1, by omega⟩
    simp only [impl_BytesOf.l1]
    rw [if_neg (by omega), ext_all ho (dg_length n s) (fun j h => hj j (by omega))]
  | succ d ih =>
    intro k out i ho hi hd hk hj
    obtain ⟨k, rfl⟩ : ∃ m, k = m + 1 := ⟨k - 1, by omega⟩
    simp only [impl_BytesOf.l1]
    rw [if_pos (by omega), w64 (x := (n : Int) - 1) (by omega) (by omega), w64 (x := (n : Int) - 1 - i) (by omega) (by omega), w64 (x := 8 * ((n : Int) - 1 - i)) (by omega) (by omega), if_pos (by omega), if_pos (by omega), if_pos (by omega), wnat (by omega),
      show (n : Int) - 1 - i = ((n - 1 - i : Nat) : Int) from by omega, shr8 s (by omega)]
    exact ih k _ (i + 1) (by simp [ho]) (by omega) (by omega) (by omega) (set_step (by omega) hj (dg_get n s i (by omega)))
/-- The number of bytes is found, or none is. -/
theorem impl_BytesOf_go (s : Int) (t : Nat) (ht : t ≤ 6) (hlast : t = 6 ∨ s / 256 ^ t ≤ 1) (d : Nat) : ∀ (k n : Nat), n ≤ t → t - n = d → d < k → (∀ m, n ≤ m → m < t → s / 256 ^ m > 1) → impl_BytesOf.l0 k s (n : Int) = impl_BytesOf.j1 (k - d - 1) s (t : Int) := by
  induction d with
  | zero =>
    intro k n hn hd hk hm
    obtain ⟨k, rfl⟩ : ∃ m, k = m + 1 := ⟨k - 1, by omega⟩
    obtain rfl : n = t := by omega
    simp only [impl_BytesOf.l0]
    by_cases h6 : n = 6
    · rw [if_neg (by omega)]; rfl
    · rw [if_pos (by omega), w64 (x := 8 * (n : Int)) (by omega) (by omega), if_pos (by omega), shr8 s (by omega), if_neg (by omega)]; rfl
  | succ d ih =>
    intro k n hn hd hk hm
    obtain ⟨k, rfl⟩ : ∃ m, k = m + 1 := ⟨k - 1, by omega⟩
    simp only [impl_BytesOf.l0]
    rw [if_pos (by omega), w64 (x := 8 * (n : Int)) (by omega) (by omega), if_pos (by omega), shr8 s (by omega), if_pos (hm n (by omega) (by omega)), wnat (by omega), ih k (n + 1) (by omega) (by omega) (by omega) (fun m h1 h2 => hm m (by omega) h2)]
    congr 1; omega
theorem impl_BytesOf_yes (s : Int) (t : Nat) (ht : t ≤ 6) (hs : s / 256 ^ t = 1) (hs1 : 1 ≤ s) {k : Nat} (hk : 20 < k) (hm : ∀ m, m < t → s / 256 ^ m > 1) : impl_BytesOf.f k s = some (dg t s, true) := by
  unfold impl_BytesOf.f
  have h := impl_BytesOf_go s t ht (Or.inr (by omega)) t k 0 (by omega) (by omega) (by omega) (fun m _ h => hm m h)
  rw [show ((0 : Nat) : Int) = 0 from rfl] at h
  rw [h]
  obtain ⟨k', hk'⟩ : ∃ m, k - t - 1 = m + 2 := ⟨k - t - 3, by omega⟩
  rw [hk']
  simp only [impl_BytesOf.j1]
  rw [if_neg (by omega), w64 (x := 8 * (t : Int)) (by omega) (by omega), if_pos (by omega), shr8 s (by omega), hs]
  simp only [impl_BytesOf.j2, bne_self_eq_false]
  rw [if_neg (by decide), if_pos (by omega), if_pos (by omega), Option.bind_some, Int.toNat_natCast, List.length_replicate]
  exact impl_BytesOf_in s t ht t k' _ 0 (by simp) (by omega) (by omega) (by omega) (fun j h => by omega)
theorem impl_BytesOf_not (s : Int) (t : Nat) (ht : t ≤ 6) (hs : s / 256 ^ t ≠ 1) (hlast : t = 6 ∨ s / 256 ^ t ≤ 1) {k : Nat} (hk : 20 < k) (hm : ∀ m, m < t → s / 256 ^ m > 1) : impl_BytesOf.f k s = some ([], false) := by
  unfold impl_BytesOf.f
  have h := impl_BytesOf_go s t ht hlast t k 0 (by omega) (by omega) (by omega) (fun m _ h => hm m h)
  rw [show ((0 : Nat) : Int) = 0 from rfl] at h
  rw [h]
  obtain ⟨k', hk'⟩ : ∃ m, k - t - 1 = m + 2 := ⟨k - t - 3, by omega⟩
  rw [hk']
  simp only [impl_BytesOf.j1]
  by_cases h1 : s < 1
  · rw [if_pos h1]; simp only [impl_BytesOf.j2, if_true]
  · rw [if_neg h1, w64 (x := 8 * (t : Int)) (by omega) (by omega), if_pos (by omega), shr8 s (by omega)]
    have hb : (s / 256 ^ t != 1) = true := bne_iff_ne.2 hs
    rw [hb]; simp only [impl_BytesOf.j2, if_true]
theorem below7 {P : Nat → Prop} {t : Nat} (ht : t ≤ 6) (h : (0 < t → P 0) ∧ (1 < t → P 1) ∧ (2 < t → P 2) ∧ (3 < t → P 3) ∧ (4 < t → P 4) ∧ (5 < t → P 5)) : ∀ m, m < t → P m := by
  intro m hm
  rcases (by omega : m = 0 ∨ m = 1 ∨ m = 2 ∨ m = 3 ∨ m = 4 ∨ m = 5) with rfl | rfl | rfl | rfl | rfl | rfl
  · exact h.1 hm
  · exact h.2.1 hm
  · exact h.2.2.1 hm
  · exact h.2.2.2.1 hm
  · exact h.2.2.2.2.1 hm
  · exact h.2.2.2.2.2 hm
theorem impl_BytesOf_v {k : Nat} (s : Int) (hk : 20 < k) : impl_BytesOf.f k s = some (bytesOfS s) := by
  have yes := fun (t : Nat) (h : t ≤ 6) h1 h2 h3 => impl_BytesOf_yes s t h h1 h2 hk h3
  have nope := fun (t : Nat) (h : t ≤ 6) h1 h2 h3 => impl_BytesOf_not s t h h1 h2 hk h3
  unfold bytesOfS
  by_cases c0 : s < 1
  · rw [if_pos c0, nope 0 (by omega) (by omega) (Or.inr (by omega)) (fun m h => by omega)]
  rw [if_neg c0]
  by_cases c1 : s < 2
  · rw [if_pos c1, yes 0 (by omega) (by omega) (by omega) (fun m h => by omega)]; rfl
  rw [if_neg c1]
  by_cases c2 : s < 256
  · rw [if_pos c2, nope 1 (by omega) (by omega) (Or.inr (by omega)) (below7 (by omega) ⟨by omega, by omega, by omega, by omega, by omega, by omega⟩)]
  rw [if_neg c2]
  by_cases c3 : s < 512
  · rw [if_pos c3, yes 1 (by omega) (by omega) (by omega) (below7 (by omega) ⟨by omega, by omega, by omega, by omega, by omega, by omega⟩)]
  rw [if_neg c3]
  by_cases c4 : s < 65536
  · rw [if_pos c4, nope 2 (by omega) (by omega) (Or.inr (by omega)) (below7 (by omega) ⟨by omega, by omega, by omega, by omega, by omega, by omega⟩)]
  rw [if_neg c4]
  by_cases c5 : s < 131072
  · rw [if_pos c5, yes 2 (by omega) (by omega) (by omega) (below7 (by omega) ⟨by omega, by omega, by omega, by omega, by omega, by omega⟩)]
  rw [if_neg c5]
  by_cases c6 : s < 16777216
  · rw [if_pos c6, nope 3 (by omega) (by omega) (Or.inr (by omega)) (below7 (by omega) ⟨by omega, by omega, by omega, by omega, by omega, by omega⟩)]
  rw [if_neg c6]
  by_cases c7 : s < 33554432
  · rw [if_pos c7, yes 3 (by omega) (by omega) (by omega) (below7 (by omega) ⟨by omega, by omega, by omega, by omega, by omega, by omega⟩)]
  rw [if_neg c7]
  by_cases c8 : s < 4294967296
  · rw [if_pos c8, nope 4 (by omega) (by omega) (Or.inr (by omega)) (below7 (by omega) ⟨by omega, by omega, by omega, by omega, by omega, by omega⟩)]
  rw [if_neg c8]
  by_cases c9 : s < 8589934592
  · rw [if_pos c9, yes 4 (by omega) (by omega) (by omega) (below7 (by omega) ⟨by omega, by omega, by omega, by omega, by omega, by omega⟩)]
  rw [if_neg c9]
  by_cases c10 : s < 1099511627776
  · rw [if_pos c10, nope 5 (by omega) (by omega) (Or.inr (by omega)) (below7 (by omega) ⟨by omega, by omega, by omega, by omega, by omega, by omega⟩)]
  rw [if_neg c10]
  by_cases c11 : s < 2199023255552
  · rw [if_pos c11, yes 5 (by omega) (by omega) (by omega) (below7 (by omega) ⟨by omega, by omega, by omega, by omega, by omega, by omega⟩)]
  rw [if_neg c11]
  by_cases c12 : s < 281474976710656
  · rw [if_pos c12, nope 6 (by omega) (by omega) (Or.inl rfl) (below7 (by omega) ⟨by omega, by omega, by omega, by omega, by omega, by omega⟩)]
  rw [if_neg c12]
  by_cases c13 : s < 562949953421312
  · rw [if_pos c13, yes 6 (by omega) (by omega) (by omega) (below7 (by omega) ⟨by omega, by omega, by omega, by omega, by omega, by omega⟩)]
  · rw [if_neg c13, nope 6 (by omega) (by omega) (Or.inl rfl) (below7 (by omega) ⟨by omega, by omega, by omega, by omega, by omega, by omega⟩)]

theorem spec_SumOf_l (l : List Int) (hb : Byt l) (hl : l.length ≤ 6) (d : Nat) : ∀ (k : Nat) (i : Nat), i ≤ l.length → l.length - i = d → d + 10 < k → spec_SumOf.l0 k l (sumS (l.take i)) (i : Int) = some (weakOf l, sumS l) := by
  induction d with
  | zero =>
    intro k i hi hd hk
    obtain ⟨k, rfl⟩ : ∃ m, k = m + 1 := ⟨k - 1, by omega⟩
    simp only [spec_SumOf.l0]
    rw [if_neg (by omega), spec_WeakOf_v hb (by omega) (by omega), List.take_of_length_le (by omega)]; rfl
  | succ d ih =>
    intro k i hi hd hk
    obtain ⟨k, rfl⟩ : ∃ m, k = m + 1 := ⟨k - 1, by omega⟩
    simp only [spec_SumOf.l0]
    have hc := hb l[i] (List.getElem_mem (by omega))
    have h1 := sumS_small (l := l.take i) (byt_take hb i) (by simp; omega)
    rw [if_pos (by omega), if_pos (by omega), wnat (by omega), rd_at (by omega : i < l.length), w64 (x := 256 * sumS (l.take i)) (by omega) (by omega), w64 (x := l[i]) (by omega) (by omega), w64 (by omega) (by omega)]
    have e : l.take (i + 1) = l.take i ++ [l[i]] := List.take_succ_eq_append_getElem (by omega)
    have := ih k (i + 1) (by omega) (by omega) (by omega)
    rw [e, sumS_snoc, Int.mul_comm] at this
    exact this
theorem spec_SumOf_v {k : Nat} {l : List Int} (hb : Byt l) (hk : 20 < k) : spec_SumOf.f k l = some (sumOf l) := by
  unfold spec_SumOf.f sumOf
  by_cases h : l.length ≤ 6
  · rw [if_neg (by omega), if_pos h]
    exact spec_SumOf_l l hb h l.length k 0 (by omega) (by omega) (by omega)
  · rw [if_pos (by omega), if_neg h]

theorem impl_SumOf_l (l : List Int) (hb : Byt l) (hl : l.length ≤ 6) (d : Nat) : ∀ (k : Nat) (i : Nat), i ≤ l.length → l.length - i = d → d + 10 < k → impl_SumOf.l0 k l (sumS (l.take i)) l (l.length : Int) (i : Int) = some (weakOf l, sumS l) := by
  induction d with
  | zero =>
    intro k i hi hd hk
    obtain ⟨k, rfl⟩ : ∃ m, k = m + 1 := ⟨k - 1, by omega⟩
    simp only [impl_SumOf.l0]
    rw [if_neg (by omega), impl_WeakOf_v hb (by omega) (by omega), List.take_of_length_le (by omega)]; rfl
  | succ d ih =>
    intro k i hi hd hk
    obtain ⟨k, rfl⟩ : ∃ m, k = m + 1 := ⟨k - 1, by omega⟩
    simp only [impl_SumOf.l0]
    have hc := hb l[i] (List.getElem_mem (by omega))
    have h1 := sumS_small (l := l.take i) (byt_take hb i) (by simp; omega)
    rw [if_pos (by omega), if_pos (by omega), if_pos (by omega), wnat (by omega), rd_at (by omega : i < l.length), w64 (x := sumS (l.take i) * 256) (by omega) (by omega), w64 (x := l[i]) (by omega) (by omega), or_256 (by omega) (by omega) hc.1 hc.2]
    have e : l.take (i + 1) = l.take i ++ [l[i]] := List.take_succ_eq_append_getElem (by omega)
    have := ih k (i + 1) (by omega) (by omega) (by omega)
    rw [e, sumS_snoc] at this
    exact this
theorem impl_SumOf_v {k : Nat} {l : List Int} (hb : Byt l) (hk : 20 < k) : impl_SumOf.f k l = some (sumOf l) := by
  unfold impl_SumOf.f sumOf
  by_cases h : l.length ≤ 6
  · rw [if_neg (by omega), if_pos h]
    exact impl_SumOf_l l hb h l.length k 0 (by omega) (by omega) (by omega)
  · rw [if_pos (by omega), if_neg h]

theorem laws_eqSum_v (a b c d : Int) : laws_eqSum.f a b c d = some (decide ((a, b) = (c, d))) := by
  unfold laws_eqSum.f
  by_cases h : a = c
  · by_cases h' : b = d
    · rw [if_pos h, if_pos h']; simp [h, h']
    · rw [if_pos h, if_neg h']; simp [h']
  · rw [if_neg h]; simp [h]

theorem laws_eqSumS_l (a b : List S66) (hab : a.length = b.length) (hl : a.length ≤ 140737488355328) (d : Nat) : ∀ (k : Nat) (i : Nat), i ≤ a.length → a.length - i = d → d < k →
    laws_eqSumS.l0 k a b (i : Int) = some (decide (a.drop i = b.drop i)) := by
  induction d with
  | zero =>
    intro k i hi hd hk
    obtain ⟨k, rfl⟩ : ∃ m, k = m + 1 := ⟨k - 1, by omega⟩
    simp only [laws_eqSumS.l0]
    rw [if_neg (by omega)]
    have e : a.drop i = b.drop i := by rw [List.drop_eq_nil_of_le (by omega), List.drop_eq_nil_of_le (by omega)]
    rw [decide_eq_true e]
  | succ d ih =>
    intro k i hi hd hk
    obtain ⟨k, rfl⟩ : ∃ m, k = m + 1 := ⟨k - 1, by omega⟩
    simp only [laws_eqSumS.l0]
    rw [if_pos (by omega), if_pos (by omega), if_pos (by omega), wnat (by omega), rd_S (by omega : i < a.length), rd_S (by omega : i < b.length), ih k (i + 1) (by omega) (by omega) (by omega), laws_eqSum_v, Option.bind_some]
    have e := drop_eq_iffS (a := a) (b := b) (i := i) (by omega) (by omega)
    by_cases h : a[i]'(by omega) = b[i]'(by omega)
    · rw [if_pos (decide_eq_true (S_eq_iff.2 h))]; simp only [e, h, true_and]
    · rw [if_neg (fun e2 => h (S_eq_iff.1 (of_decide_eq_true e2)))]; simp only [e, h, false_and, decide_false]
theorem laws_eqSumS_v {k : Nat} {a b : List S66} (hl : a.length ≤ 140737488355328) (hk : a.length < k) : laws_eqSumS.f k a b = some (decide (a = b)) := by
  unfold laws_eqSumS.f
  by_cases h : a.length = b.length
  · rw [if_pos (by omega)]
    exact laws_eqSumS_l a b h hl a.length k 0 (by omega) (by omega) hk
  · rw [if_neg (by omega)]
    have : a ≠ b := fun e => h (by rw [e])
    simp [this]

theorem laws_markSumS_l (c : Int) (n : Nat) (hc : 0 ≤ c) (hl : c + 2 * n ≤ 4611686018427387904) (d : Nat) : ∀ (k : Nat) (x : List S66) (i : Nat), x.length = n → i ≤ n → n - i = d → d < k →
    (∀ j, j < i → x[j]? = (toSs (markS c n))[j]?) → laws_markSumS.l0 k x (c + 2 * (i : Int)) (i : Int) = some (c + 2 * (n : Int), toSs (markS c n)) := by
  have hml : (toSs (markS c n)).length = n := by rw [toSs_length, markS_length]
  induction d with
  | zero =>
    intro k x i hx hi hd hk hj
    obtain ⟨k, rfl⟩ : ∃ m, k = m + 1 := ⟨k - 1, by omega⟩
    simp only [laws_markSumS.l0]
    rw [if_neg (by omega), ext_all hx hml (fun j h => hj j (by omega)), show i = n from by omega]
  | succ d ih =>
    intro k x i hx hi hd hk hj
    obtain ⟨k, rfl⟩ : ∃ m, k = m + 1 := ⟨k - 1, by omega⟩
    simp only [laws_markSumS.l0]
    rw [if_pos (by omega), if_pos (by omega), Option.bind_some, wnat (by omega), w64 (x := c + 2 * (i : Int) + 1) (by omega) (by omega), w64 (x := c + 2 * (i : Int) + 1 + 1) (by omega) (by omega), show c + 2 * (i : Int) + 1 + 1 = c + 2 * ((i + 1 : Nat) : Int) from by omega, Int.toNat_natCast, rd_S (l := x) (i := i) (by omega), rd_S (i := i) (by rw [List.length_set]; omega), List.set_set, List.getElem_set_self]
    refine ih k _ (i + 1) (by simp [hx]) (by omega) (by omega) (by omega) (set_step (by omega) hj ?_)
    simp [toSs, markS_get c n i (by omega), toS]
theorem laws_markSumS_v {k : Nat} {x : List S66} {c : Int} (hc : 0 ≤ c) (hl : c + 2 * x.length ≤ 4611686018427387904) (hk : x.length < k) : laws_markSumS.f k x c = some (c + 2 * (x.length : Int), toSs (markS c x.length)) := by
  unfold laws_markSumS.f
  have h := laws_markSumS_l c x.length hc hl x.length k x 0 rfl (by omega) (by omega) hk (fun j h => by omega)
  rw [show c + 2 * ((0 : Nat) : Int) = c from by omega] at h
  exact h

theorem laws_heldSumS_l (c : Int) (n : Nat) (hc : 0 ≤ c) (hl : c + 2 * n ≤ 4611686018427387904) (d : Nat) : ∀ (k : Nat) (i : Nat), i ≤ n → n - i = d → d < k →
    laws_heldSumS.l0 k (toSs (markS c n)) (c + 2 * (i : Int)) (i : Int) = some (c + 2 * (n : Int)) := by
  have hml : (toSs (markS c n)).length = n := by rw [toSs_length, markS_length]
  induction d with
  | zero =>
    intro k i hi hd hk
    obtain ⟨k, rfl⟩ : ∃ m, k = m + 1 := ⟨k - 1, by omega⟩
    simp only [laws_heldSumS.l0, hml]
    rw [if_neg (by omega), show i = n from by omega]
  | succ d ih =>
    intro k i hi hd hk
    obtain ⟨k, rfl⟩ : ∃ m, k = m + 1 := ⟨k - 1, by omega⟩
    have hg : rd_T66 (toSs (markS c n)) (i : Int) = ⟨c + 2 * (i : Int), c + 2 * (i : Int) + 1⟩ := by
      rw [rd_S (by omega)]
      simp [toSs, markS, toS]
    simp only [laws_heldSumS.l0, hml, hg]
    rw [if_pos (by omega), if_pos (by omega), if_pos trivial, w64 (x := c + 2 * (i : Int) + 1) (by omega) (by omega), if_pos rfl, wnat (by omega), w64 (x := c + 2 * (i : Int) + 1 + 1) (by omega) (by omega), show c + 2 * (i : Int) + 1 + 1 = c + 2 * ((i + 1 : Nat) : Int) from by omega]
    exact ih k (i + 1) (by omega) (by omega) (by omega)
theorem laws_heldSumS_v {k : Nat} {n : Nat} {c : Int} (hc : 0 ≤ c) (hl : c + 2 * n ≤ 4611686018427387904) (hk : n < k) : laws_heldSumS.f k (toSs (markS c n)) c = some (c + 2 * (n : Int)) := by
  unfold laws_heldSumS.f
  have h := laws_heldSumS_l c n hc hl n k 0 (by omega) (by omega) hk
  rw [show c + 2 * ((0 : Nat) : Int) = c from by omega] at h
  exact h

theorem laws_eqManifest_v {k : Nat} {a b c a' b' c' : Int} {l l' : List S66} (hl : l.length ≤ 140737488355328) (hk : l.length < k) : laws_eqManifest.f k a b c l a' b' c' l' = some (decide ((a, b, c, l) = (a', b', c', l'))) := by
  unfold laws_eqManifest.f
  rw [laws_eqSumS_v hl hk]
  by_cases h1 : a = a'
  · by_cases h2 : b = b'
    · by_cases h3 : c = c'
      · by_cases h4 : l = l'
        · simp [h1, h2, h3, h4]
        · simp [h1, h2, h3, h4]
      · simp [h1, h2, h3]
    · simp [h1, h2]
  · simp [h1]

theorem laws_markManifest_v {k : Nat} {a b d : Int} {x : List S66} {c : Int} (hc : 0 ≤ c) (hl : c + 2 * x.length ≤ 4611686018427387904) (hk : x.length < k) : laws_markManifest.f k a b d x c = some (c + 2 * (x.length : Int), toSs (markS c x.length)) := by
  unfold laws_markManifest.f
  rw [laws_markSumS_v hc hl hk]; rfl

theorem laws_heldManifest_v {k : Nat} {a b d : Int} {n : Nat} {c : Int} (hc : 0 ≤ c) (hl : c + 2 * n ≤ 4611686018427387904) (hk : n < k) : laws_heldManifest.f k a b d (toSs (markS c n)) c = some (c + 2 * (n : Int)) := by
  unfold laws_heldManifest.f
  rw [laws_heldSumS_v hc hl hk, Option.bind_some, if_neg (by omega)]

theorem bytesOfS_sum {s : Int} (h : (bytesOfS s).2 = true) : sumS (bytesOfS s).1 = s ∧ Byt (bytesOfS s).1 := by
  unfold bytesOfS at h ⊢
  by_cases c0 : s < 1
  · rw [if_pos c0] at h; simp at h
  rw [if_neg c0] at h ⊢
  by_cases c1 : s < 2
  · rw [if_pos c1]; exact ⟨by simp [sumS]; omega, byt_nil⟩
  rw [if_neg c1] at h ⊢
  by_cases c2 : s < 256
  · rw [if_pos c2] at h; simp at h
  rw [if_neg c2] at h ⊢
  by_cases c3 : s < 512
  · rw [if_pos c3]; exact ⟨sumS_dg 1 s (by omega) (by omega), dg_byt 1 s⟩
  rw [if_neg c3] at h ⊢
  by_cases c4 : s < 65536
  · rw [if_pos c4] at h; simp at h
  rw [if_neg c4] at h ⊢
  by_cases c5 : s < 131072
  · rw [if_pos c5]; exact ⟨sumS_dg 2 s (by omega) (by omega), dg_byt 2 s⟩
  rw [if_neg c5] at h ⊢
  by_cases c6 : s < 16777216
  · rw [if_pos c6] at h; simp at h
  rw [if_neg c6] at h ⊢
  by_cases c7 : s < 33554432
  · rw [if_pos c7]; exact ⟨sumS_dg 3 s (by omega) (by omega), dg_byt 3 s⟩
  rw [if_neg c7] at h ⊢
  by_cases c8 : s < 4294967296
  · rw [if_pos c8] at h; simp at h
  rw [if_neg c8] at h ⊢
  by_cases c9 : s < 8589934592
  · rw [if_pos c9]; exact ⟨sumS_dg 4 s (by omega) (by omega), dg_byt 4 s⟩
  rw [if_neg c9] at h ⊢
  by_cases d0 : s < 1099511627776
  · rw [if_pos d0] at h; simp at h
  rw [if_neg d0] at h ⊢
  by_cases d1 : s < 2199023255552
  · rw [if_pos d1]; exact ⟨sumS_dg 5 s (by omega) (by omega), dg_byt 5 s⟩
  rw [if_neg d1] at h ⊢
  by_cases d2 : s < 281474976710656
  · rw [if_pos d2] at h; simp at h
  rw [if_neg d2] at h ⊢
  by_cases d3 : s < 562949953421312
  · rw [if_pos d3]; exact ⟨sumS_dg 6 s (by omega) (by omega), dg_byt 6 s⟩
  rw [if_neg d3] at h; simp at h
def sumOkAt (size len : Int) (i : Nat) (x : S66) : Prop :=
  (bytesOfS x.f1).2 = true ∧ ((bytesOfS x.f1).1.length : Int) = (spanOf size len (i : Int)).2 ∧ weakOf (bytesOfS x.f1).1 = x.f0
instance (size len : Int) (i : Nat) (x : S66) : Decidable (sumOkAt size len i x) := by unfold sumOkAt; exact inferInstance
def sumsOk (size len : Int) : Nat → List S66 → Bool
  | _, [] => true
  | i, x :: r => if sumOkAt size len i x then sumsOk size len (i + 1) r else false
def manOk (a b c : Int) (l : List S66) : Bool :=
  if a = 0 then decide (b = 0 ∧ c = 0 ∧ l = [])
  else if 1 ≤ a ∧ a ≤ 1000000 ∧ sizeOk b c = true ∧ (l.length : Int) = blocks b c then sumsOk b c 0 l else false
theorem spec_ManOk_l (a b c : Int) (l : List S66) (hl : l.length ≤ 140737488355328) (d : Nat) : ∀ (k : Nat) (i : Nat), i ≤ l.length → l.length - i = d → d + 30 < k →
    spec_ManOk.l0 k (i : Int) a b c l = some (sumsOk b c i (l.drop i)) := by
  induction d with
  | zero =>
    intro k i hi hd hk
    obtain ⟨k, rfl⟩ : ∃ m, k = m + 1 := ⟨k - 1, by omega⟩
    simp only [spec_ManOk.l0]
    rw [if_neg (by omega), List.drop_eq_nil_of_le (by omega)]; rfl
  | succ d ih =>
    intro k i hi hd hk
    obtain ⟨k, rfl⟩ : ∃ m, k = m + 1 := ⟨k - 1, by omega⟩
    simp only [spec_ManOk.l0]
    rw [if_pos (by omega), if_pos (by omega), rd_S (by omega : i < l.length), spec_BytesOf_v _ (by omega), Option.bind_some, spec_SpanOf_v, Option.bind_some, List.drop_eq_getElem_cons (by omega : i < l.length), sumsOk, wnat (by omega), ih k (i + 1) (by omega) (by omega) (by omega)]
    generalize l[i]'(by omega) = x
    by_cases h1 : (bytesOfS x.f1).2 = true
    · obtain ⟨e1, hby⟩ := bytesOfS_sum h1
      have hlen := bytesOfS_length x.f1
      by_cases h2 : ((bytesOfS x.f1).1.length : Int) = (spanOf b c (i : Int)).2
      · have es : sumOf (bytesOfS x.f1).1 = (weakOf (bytesOfS x.f1).1, x.f1) := by unfold sumOf; rw [if_pos hlen, e1]
        rw [if_pos h1, if_pos h2, spec_SumOf_v hby (by omega), Option.bind_some]
        simp only [es]
        by_cases h3 : weakOf (bytesOfS x.f1).1 = x.f0
        · rw [if_pos (show sumOkAt b c i x from ⟨h1, h2, h3⟩), h3]; simp
        · rw [if_neg (fun g : sumOkAt b c i x => h3 g.2.2)]; simp [h3]
      · rw [if_pos h1, if_neg h2, if_neg (fun g : sumOkAt b c i x => h2 g.2.1)]
    · rw [if_neg h1, if_neg (fun g : sumOkAt b c i x => h1 g.1)]
theorem spec_ManOk_v {k : Nat} (a b c : Int) {l : List S66} (hl : l.length ≤ 140737488355328) (hk : l.length + 40 < k) : spec_ManOk.f k a b c l = some (manOk a b c l) := by
  obtain ⟨k, rfl⟩ : ∃ m, k = m + 1 := ⟨k - 1, by omega⟩
  unfold spec_ManOk.f manOk
  have h0 := spec_ManOk_l a b c l hl l.length k 0 (by omega) (by omega) (by omega)
  simp only [List.drop_zero, show ((0 : Nat) : Int) = 0 from rfl] at h0
  simp only [spec_l1In_v, spec_SizeOk_v, spec_Blocks_v, Option.bind_some, spec_ManOk.j0]
  by_cases hz : a = 0
  · rw [if_pos hz, if_pos hz]
    by_cases h1 : b = 0
    · by_cases h2 : c = 0
      · cases l with
        | nil => simp [h1, h2]
        | cons x r => simp [h1, h2]; omega
      · simp [h1, h2]
    · simp [h1]
  · rw [if_neg hz, if_neg hz]
    by_cases h1 : 1 ≤ a ∧ a ≤ 1000000
    · by_cases h2 : sizeOk b c = true
      · by_cases h3 : (l.length : Int) = blocks b c
        · simp [h1, h2, h3, h0]
        · simp [h1, h2, h3]
      · simp [h1, h2]
    · rw [decide_eq_false h1, if_neg (by decide : ¬ false = true), if_pos trivial, if_neg (fun g => h1 ⟨g.1, g.2.1⟩)]

theorem impl_ManOk_l (a b c : Int) (l : List S66) (hl : l.length ≤ 140737488355328) (d : Nat) : ∀ (k : Nat) (i : Nat), i ≤ l.length → l.length - i = d → d + 30 < k →
    impl_ManOk.l0 k l (l.length : Int) (i : Int) a b c l = some (sumsOk b c i (l.drop i)) := by
  induction d with
  | zero =>
    intro k i hi hd hk
    obtain ⟨k, rfl⟩ : ∃ m, k = m + 1 := ⟨k - 1, by omega⟩
    simp only [impl_ManOk.l0]
    rw [if_neg (by omega), List.drop_eq_nil_of_le (by omega)]; rfl
  | succ d ih =>
    intro k i hi hd hk
    obtain ⟨k, rfl⟩ : ∃ m, k = m + 1 := ⟨k - 1, by omega⟩
    simp only [impl_ManOk.l0]
    rw [if_pos (by omega), if_pos (by omega), if_pos (by omega), rd_S (by omega : i < l.length), impl_BytesOf_v _ (by omega), Option.bind_some, impl_SpanOf_v, Option.bind_some, List.drop_eq_getElem_cons (by omega : i < l.length), sumsOk, wnat (by omega), ih k (i + 1) (by omega) (by omega) (by omega)]
    generalize l[i]'(by omega) = x
    by_cases h1 : (bytesOfS x.f1).2 = true
    · obtain ⟨e1, hby⟩ := bytesOfS_sum h1
      have hlen := bytesOfS_length x.f1
      by_cases h2 : ((bytesOfS x.f1).1.length : Int) = (spanOf b c (i : Int)).2
      · rw [if_pos h1, if_pos h2, impl_WeakOf_v hby (by omega) (by omega), Option.bind_some]
        by_cases h3 : weakOf (bytesOfS x.f1).1 = x.f0
        · rw [if_pos h3, if_pos (show sumOkAt b c i x from ⟨h1, h2, h3⟩)]
        · rw [if_neg h3, if_neg (fun g : sumOkAt b c i x => h3 g.2.2)]
      · rw [if_pos h1, if_neg h2, if_neg (fun g : sumOkAt b c i x => h2 g.2.1)]
    · rw [if_neg h1, if_neg (fun g : sumOkAt b c i x => h1 g.1)]
theorem impl_isZeroMan_v (a b c : Int) (l : List S66) : impl_isZeroMan.f a b c l = some (decide (a = 0 ∧ b = 0 ∧ c = 0 ∧ l = [])) := by
  unfold impl_isZeroMan.f
  by_cases h0 : a = 0
  · by_cases h1 : b = 0
    · by_cases h2 : c = 0
      · cases l with
        | nil => simp [h0, h1, h2]
        | cons x r => simp [h0, h1, h2]; omega
      · simp [h1, h2]
    · simp [h1]
  · simp [h0]
theorem impl_ManOk_v {k : Nat} (a b c : Int) {l : List S66} (hl : l.length ≤ 140737488355328) (hk : l.length + 40 < k) : impl_ManOk.f k a b c l = some (manOk a b c l) := by
  obtain ⟨k, rfl⟩ : ∃ m, k = m + 1 := ⟨k - 1, by omega⟩
  unfold impl_ManOk.f manOk
  have h0 := impl_ManOk_l a b c l hl l.length k 0 (by omega) (by omega) (by omega)
  simp only [List.drop_zero, show ((0 : Nat) : Int) = 0 from rfl] at h0
  simp only [impl_isZeroMan_v, impl_within_v, impl_SizeOk_v, impl_Blocks_v, Option.bind_some, impl_ManOk.j0]
  by_cases hz : a = 0
  · rw [if_pos hz]
    by_cases h1 : b = 0 ∧ c = 0 ∧ l = []
    · simp [hz, h1]
    · have : ¬ (1 ≤ a ∧ a ≤ 1000000) := by omega
      simp [hz, h1]
  · rw [if_neg hz]
    have hz' : ¬ (a = 0 ∧ b = 0 ∧ c = 0 ∧ l = []) := fun g => hz g.1
    rw [decide_eq_false hz', if_neg (by decide)]
    by_cases h1 : 1 ≤ a ∧ a ≤ 1000000
    · by_cases h2 : sizeOk b c = true
      · by_cases h3 : (l.length : Int) = blocks b c
        · simp [h1, h2, h3]
          rw [← h3]; exact h0
        · simp [h1, h2, h3]
      · simp [h1, h2]
    · rw [decide_eq_false h1, if_neg (by decide : ¬ false = true), if_pos trivial, if_neg (fun g => h1 ⟨g.1, g.2.1⟩)]

theorem spec_l6GetSum_l (l : List Int) (hb : Byt l) (hl : l.length ≤ 140737488351232) (a : Int) (ha0 : 0 ≤ a) (ha1 : a ≤ (l.length : Int)) (d : Nat) : ∀ (k j : Nat) (n : Int), j + d = 8 → 0 ≤ n → n < 128 ^ j → d < k →
    spec_l6GetSum.l0 k l a n (j : Int) = some (rdv l a d j n) := by
  induction d with
  | zero =>
    intro k j n hj hn0 hn hk
    obtain ⟨k, rfl⟩ : ∃ m, k = m + 1 := ⟨k - 1, by omega⟩
    simp only [spec_l6GetSum.l0]
    rw [if_neg (by omega)]
    simp [rdv]
  | succ d ih =>
    intro k j n hj hn0 hn hk
    obtain ⟨k, rfl⟩ : ∃ m, k = m + 1 := ⟨k - 1, by omega⟩
    simp only [spec_l6GetSum.l0]
    rw [if_pos (by omega), w64 (x := (l.length : Int) - j) (by omega) (by omega)]
    by_cases hin : 0 ≤ a ∧ a + (j : Int) < (l.length : Int)
    · have hx := rd_byt hb (a + (j : Int))
      have hs := var_step (j := j) n (rd l (a + (j : Int)) % 128) hn0 hn (by omega) (by omega)
      rw [if_neg (by omega), w64 (x := a + (j : Int)) (by omega) (by omega), if_pos (by omega), if_pos (by omega), w64 (x := 7 * (j : Int)) (by omega) (by omega), if_pos (by omega), w64 (x := rd l (a + (j : Int))) (by omega) (by omega),
        and127 hx.1 hx.2, shl7 (by omega) (by omega) (by omega), orVar (by omega) hn0 hn (by omega) (by omega)]
      rw [rdv, if_pos hin]
      by_cases h128 : rd l (a + (j : Int)) < 128
      · rw [if_pos h128, if_pos h128]
        have e : rd l (a + (j : Int)) % 128 = rd l (a + (j : Int)) := by omega
        rw [e, w64 (x := a + (j : Int) + 1) (by omega) (by omega)]
        by_cases hp : rd l (a + (j : Int)) > 0
        · have hd : decide (j = 0 ∨ 0 < rd l (a + (j : Int))) = true := decide_eq_true (Or.inr (by omega))
          rw [if_pos hp, hd]
        · rw [if_neg hp]
          by_cases hj0 : j = 0
          · subst hj0; simp
          · have hd : decide (j = 0 ∨ 0 < rd l (a + (j : Int))) = false := decide_eq_false (by omega)
            have hd' : (((j : Int)) == 0) = false := beq_eq_false_iff_ne.2 (by omega)
            rw [hd, hd']
      · rw [if_neg h128, if_neg h128]
        have e : rd l (a + (j : Int)) % 128 = rd l (a + (j : Int)) - 128 := by omega
        rw [e] at hs ⊢
        rw [w64 (x := (j : Int) + 1) (by omega) (by omega)]
        exact ih k (j + 1) _ (by omega) hs.1 hs.2 (by omega)
    · rw [if_pos (by omega), rdv, if_neg hin]
theorem spec_l6GetSum_v {k : Nat} {l : List Int} (hb : Byt l) (hl : l.length ≤ 140737488351232) {a : Int} (ha0 : 0 ≤ a) (ha1 : a ≤ (l.length : Int)) (hk : 20 < k) : spec_l6GetSum.f k l a = some (rdv l a 8 0 0) := by
  unfold spec_l6GetSum.f
  exact spec_l6GetSum_l l hb hl a ha0 ha1 8 k 0 0 (by omega) (by omega) (by decide) (by omega)

theorem ite_byt {c : Prop} [Decidable c] {a b : List Int × Bool} (ha : Byt a.1) (hb : Byt b.1) : Byt (if c then a else b).1 := by
  by_cases h : c
  · rw [if_pos h]; exact ha
  · rw [if_neg h]; exact hb
theorem bytesOfS_byt (s : Int) : Byt (bytesOfS s).1 := by
  unfold bytesOfS
  iterate 14 (refine ite_byt (by first | exact byt_nil | exact dg_byt _ _) ?_)
  exact byt_nil
/-- A manifest and where it ends, or none. -/
abbrev GM := Int × Int × Int × List S66 × Int × Bool
def noMan : GM := (0, 0, 0, [], 0, false)
def finMan (g s n : Int) : Option (List S66 × Int) → GM
  | none => noMan
  | some (m, p) => if manOk g s n m = true then (g, s, n, m, p, true) else noMan
def getSums (l : List Int) : Nat → Int → List S66 → Option (List S66 × Int)
  | 0, p, acc => some (acc, p)
  | d + 1, p, acc => if (rdv l p 8 0 0).2.2 = true then getSums l d (rdv l p 8 0 0).2.1 (acc ++ [⟨(sumOf (bytesOfS (rdv l p 8 0 0).1).1).1, (rdv l p 8 0 0).1⟩]) else none
def getSumsOk (l : List Int) : Nat → Int → List S66 → Option (List S66 × Int)
  | 0, p, acc => some (acc, p)
  | d + 1, p, acc => if (rdv l p 8 0 0).2.2 = true ∧ (bytesOfS (rdv l p 8 0 0).1).2 = true then getSumsOk l d (rdv l p 8 0 0).2.1 (acc ++ [⟨(sumOf (bytesOfS (rdv l p 8 0 0).1).1).1, (rdv l p 8 0 0).1⟩]) else none
theorem getVar_at {l : List Int} (hb : Byt l) (hl : l.length ≤ 140737488351232) (a : Int) : 0 ≤ (getVar l a).2.1 ∧ (getVar l a).2.1 ≤ (l.length : Int) := by
  by_cases h : (getVar l a).2.2 = true
  · have := getVar_range hb hl a h; omega
  · unfold getVar at h ⊢
    by_cases hc : (rdv l a 6 0 0).2.2 = true ∧ (rdv l a 6 0 0).1 ≤ 1000000000000
    · rw [if_pos hc] at h; exact absurd hc.1 h
    · rw [if_neg hc]; exact ⟨by simp, by simp⟩
theorem getSums_mem (l : List Int) (d : Nat) : ∀ (p : Int) (acc m : List S66) (q : Int), getSums l d p acc = some (m, q) → ∀ x ∈ acc, x ∈ m := by
  induction d with
  | zero =>
    intro p acc m q h x hx
    simp only [getSums, Option.some.injEq, Prod.mk.injEq] at h
    rw [← h.1]; exact hx
  | succ d ih =>
    intro p acc m q h x hx
    rw [getSums] at h
    by_cases hc : (rdv l p 8 0 0).2.2 = true
    · rw [if_pos hc] at h
      exact ih _ _ _ _ h x (List.mem_append_left _ hx)
    · rw [if_neg hc] at h; simp at h
theorem sumsOk_bytes (b c : Int) (l : List S66) : ∀ i, sumsOk b c i l = true → ∀ x ∈ l, (bytesOfS x.f1).2 = true := by
  induction l with
  | nil => intro i _ x hx; simp at hx
  | cons y r ih =>
    intro i h x hx
    rw [sumsOk] at h
    by_cases hy : sumOkAt b c i y
    · rw [if_pos hy] at h
      rcases List.mem_cons.1 hx with rfl | hx
      · exact hy.1
      · exact ih (i + 1) h x hx
    · rw [if_neg hy] at h; simp at h
theorem manOk_facts {a b c : Int} {l : List S66} (h : manOk a b c l = true) : l.length ≤ 40 ∧ (∀ x ∈ l, (bytesOfS x.f1).2 = true) ∧ (a = 0 → b = 0 ∧ c = 0 ∧ l = []) := by
  unfold manOk at h
  by_cases h0 : a = 0
  · rw [if_pos h0] at h
    obtain ⟨h1, h2, rfl⟩ := of_decide_eq_true h
    exact ⟨by simp, fun x hx => by simp at hx, fun _ => ⟨h1, h2, rfl⟩⟩
  · rw [if_neg h0] at h
    by_cases h1 : 1 ≤ a ∧ a ≤ 1000000 ∧ sizeOk b c = true ∧ (l.length : Int) = blocks b c
    · rw [if_pos h1] at h
      have := blocks_le b c
      exact ⟨by omega, sumsOk_bytes b c l 0 h, fun e => absurd e h0⟩
    · rw [if_neg h1] at h; simp at h
/-- Where a number of no bytes was read, the manifest is none. -/
theorem getSums_fin (l : List Int) (g s n : Int) (d : Nat) : ∀ (p : Int) (acc : List S66), finMan g s n (getSums l d p acc) = finMan g s n (getSumsOk l d p acc) := by
  induction d with
  | zero => intro p acc; rfl
  | succ d ih =>
    intro p acc
    rw [getSums, getSumsOk]
    by_cases h1 : (rdv l p 8 0 0).2.2 = true
    · by_cases h2 : (bytesOfS (rdv l p 8 0 0).1).2 = true
      · rw [if_pos h1, if_pos ⟨h1, h2⟩]; exact ih _ _
      · rw [if_pos h1, if_neg (fun e => h2 e.2)]
        cases hg : getSums l d (rdv l p 8 0 0).2.1 (acc ++ [⟨(sumOf (bytesOfS (rdv l p 8 0 0).1).1).1, (rdv l p 8 0 0).1⟩]) with
        | none => rfl
        | some r =>
          obtain ⟨m, q⟩ := r
          have hm := getSums_mem l d _ _ _ _ hg _ (List.mem_append_right _ (List.mem_singleton.2 rfl))
          simp only [finMan]
          rw [if_neg (fun h => h2 ((manOk_facts h).2.1 _ hm))]
    · rw [if_neg h1, if_neg (fun e => h1 e.1)]
def getMan (l : List Int) (a : Int) : GM :=
  if (getVar l a).2.2 = true ∧ (getVar l (getVar l a).2.1).2.2 = true ∧ (getVar l (getVar l (getVar l a).2.1).2.1).2.2 = true then
    finMan (getVar l a).1 (getVar l (getVar l a).2.1).1 (getVar l (getVar l (getVar l a).2.1).2.1).1
      (getSumsOk l (blocks (getVar l (getVar l a).2.1).1 (getVar l (getVar l (getVar l a).2.1).2.1).1).toNat (getVar l (getVar l (getVar l a).2.1).2.1).2.1 [])
  else noMan
theorem getMan_len (l : List Int) (a : Int) : (getMan l a).2.2.2.1.length ≤ 40 := by
  unfold getMan
  split
  · cases getSumsOk l (blocks (getVar l (getVar l a).2.1).1 (getVar l (getVar l (getVar l a).2.1).2.1).1).toNat (getVar l (getVar l (getVar l a).2.1).2.1).2.1 [] with
    | none => simp [finMan, noMan]
    | some r =>
      obtain ⟨m, q⟩ := r
      simp only [finMan]
      split
      · rename_i h; exact (manOk_facts h).1
      · simp [noMan]
  · simp [noMan]
theorem spec_GetMan_l {l : List Int} (hb : Byt l) (hl : l.length ≤ 140737488351232) (g s n : Int) (hg : g > 0) (d : Nat) : ∀ (k i : Nat) (p : Int) (acc : List S66), (i : Int) + (d : Int) = blocks s n → acc.length = i → 0 ≤ p → p ≤ (l.length : Int) → 2 * d + 200 < k →
    spec_GetMan.l0 k l g s n p (i : Int) 0 0 0 g s n acc = some (finMan g s n (getSums l d p acc)) := by
  have hB := blocks_le s n
  induction d with
  | zero =>
    intro k i p acc hi ha h0 h1 hk
    obtain ⟨k, rfl⟩ : ∃ m, k = m + 2 := ⟨k - 2, by omega⟩
    simp only [spec_GetMan.l0, spec_GetMan.j2]
    rw [spec_Blocks_v, Option.bind_some, if_neg (by omega), if_neg (by decide), spec_ManOk_v g s n (by omega) (by omega), Option.bind_some]
    simp only [getSums, finMan, noMan]
    split <;> rfl
  | succ d ih =>
    intro k i p acc hi ha h0 h1 hk
    obtain ⟨k, rfl⟩ : ∃ m, k = m + 2 := ⟨k - 2, by omega⟩
    simp only [spec_GetMan.l0, spec_GetMan.j2]
    rw [spec_Blocks_v, Option.bind_some, if_pos (by omega), if_pos (decide_eq_true hg), spec_l6GetSum_v hb hl h0 h1 (by omega), Option.bind_some, getSums]
    by_cases hr : (rdv l p 8 0 0).2.2 = true
    · have hq := rdv_range hb p 8 0 0 (by omega) hr
      rw [if_pos hr, if_pos hr, spec_BytesOf_v _ (by omega), Option.bind_some, spec_SumOf_v (bytesOfS_byt _) (by omega), Option.bind_some, if_pos (by omega), wnat (by omega)]
      exact ih k (i + 1) _ _ (by omega) (by simp [ha]) (by omega) (by omega) (by omega)
    · rw [if_neg hr, if_neg hr]; rfl
theorem blocks_zero : blocks 0 0 = 0 := by unfold blocks sizeOk; simp
theorem spec_GetMan_v {k : Nat} {l : List Int} (hb : Byt l) (hl : l.length ≤ 140737488351232) {a : Int} (ha0 : -9223372036854775808 ≤ a) (ha1 : a ≤ 9223372036854775807) (hk : 400 < k) : spec_GetMan.f k l a = some (getMan l a) := by
  have h1 := getVar_at hb hl a
  have h2 := getVar_at hb hl (getVar l a).2.1
  have h3 := getVar_at hb hl (getVar l (getVar l a).2.1).2.1
  obtain ⟨k, rfl⟩ : ∃ m, k = m + 3 := ⟨k - 3, by omega⟩
  unfold spec_GetMan.f getMan
  rw [spec_GetVar_v hb hl ha0 ha1 (by omega), Option.bind_some, spec_GetVar_v hb hl (by omega) (by omega) (by omega), Option.bind_some, spec_GetVar_v hb hl (by omega) (by omega) (by omega), Option.bind_some]
  have r1 := getVar_range hb hl a
  generalize getVar l a = v1 at *
  generalize getVar l v1.2.1 = v2 at *
  generalize getVar l v2.2.1 = v3 at *
  by_cases c1 : v1.2.2 = true
  · by_cases c2 : v2.2.2 = true
    · by_cases c3 : v3.2.2 = true
      · rw [if_pos c1, if_pos c2, if_pos ⟨c1, c2, c3⟩]
        simp only [spec_GetMan.j0]
        rw [if_neg (by simp [c3])]
        have hB := blocks_le v2.1 v3.1
        by_cases hg : v1.1 > 0
        · have h := spec_GetMan_l hb hl v1.1 v2.1 v3.1 hg (blocks v2.1 v3.1).toNat (k + 2) 0 v3.2.1 [] (by omega) rfl h3.1 h3.2 (by omega)
          rw [show ((0 : Nat) : Int) = 0 from rfl] at h
          rw [h, getSums_fin]
        · have hz : v1.1 = 0 := by have := r1 c1; omega
          simp only [spec_GetMan.l0, spec_GetMan.j2]
          rw [spec_Blocks_v, Option.bind_some, decide_eq_false hg, ite_self, if_neg (by decide), spec_ManOk_v v1.1 v2.1 v3.1 (by simp) (by simp; omega), Option.bind_some]
          by_cases hm : manOk v1.1 v2.1 v3.1 [] = true
          · obtain ⟨e1, e2, _⟩ := (manOk_facts hm).2.2 hz
            rw [if_pos hm, e1, e2, blocks_zero]
            simp only [Int.toNat_zero, getSumsOk, finMan]
            rw [e1, e2] at hm
            rw [if_pos hm]
          · rw [if_neg hm]
            have hno : ∀ m, ¬ manOk v1.1 v2.1 v3.1 m = true := by
              intro m h
              obtain ⟨e1, e2, e3⟩ := (manOk_facts h).2.2 hz
              rw [e3] at h; exact hm h
            cases getSumsOk l (blocks v2.1 v3.1).toNat v3.2.1 [] with
            | none => rfl
            | some r => obtain ⟨m, q⟩ := r; simp only [finMan]; rw [if_neg (hno m)]; rfl
      · rw [if_pos c1, if_pos c2, if_neg (fun e => c3 e.2.2)]
        simp only [spec_GetMan.j0]
        rw [if_pos (by simp [c3])]; rfl
    · rw [if_pos c1, if_neg c2, if_neg (fun e => c2 e.2.1)]
      simp only [spec_GetMan.j0, if_true]; rfl
  · rw [if_neg c1, if_neg (fun e => c1 e.1)]
    simp only [spec_GetMan.j0, if_true]; rfl

theorem impl_readVars_v {k : Nat} {l : List Int} (hb : Byt l) (hl : l.length ≤ 140737488351232) {a : Int} (ha0 : -9223372036854775808 ≤ a) (ha1 : a ≤ 9223372036854775807) (hk : 100 < k) :
    impl_readVars.f k l a 3 = some (if (getVar l a).2.2 = true ∧ (getVar l (getVar l a).2.1).2.2 = true ∧ (getVar l (getVar l (getVar l a).2.1).2.1).2.2 = true then
      ([(getVar l a).1, (getVar l (getVar l a).2.1).1, (getVar l (getVar l (getVar l a).2.1).2.1).1], (getVar l (getVar l (getVar l a).2.1).2.1).2.1, true) else ([], 0, false)) := by
  have h1 := getVar_at hb hl a
  have h2 := getVar_at hb hl (getVar l a).2.1
  obtain ⟨k, rfl⟩ : ∃ m, k = m + 4 := ⟨k - 4, by omega⟩
  unfold impl_readVars.f
  simp only [impl_readVars.l0]
  rw [impl_GetVar_v hb hl ha0 ha1 (by omega), Option.bind_some, impl_GetVar_v hb hl (by omega) (by omega) (by omega), Option.bind_some, impl_GetVar_v hb hl (by omega) (by omega) (by omega), Option.bind_some]
  generalize getVar l a = v1 at *
  generalize getVar l v1.2.1 = v2 at *
  generalize getVar l v2.2.1 = v3 at *
  rw [show wrap64 ((0 : Int) + 1) = 1 from w64 (by omega) (by omega), show wrap64 ((1 : Int) + 1) = 2 from w64 (by omega) (by omega), show wrap64 ((2 : Int) + 1) = 3 from w64 (by omega) (by omega)]
  by_cases c1 : v1.2.2 = true
  · by_cases c2 : v2.2.2 = true
    · by_cases c3 : v3.2.2 = true
      · simp [c1, c2, c3]
      · simp [c1, c2, c3]
    · simp [c1, c2]
  · simp [c1]
theorem impl_GetMan_l {l : List Int} (hb : Byt l) (hl : l.length ≤ 140737488351232) (g s n B : Int) (hB : 0 ≤ B ∧ B ≤ 40) (d : Nat) : ∀ (k i : Nat) (p : Int) (acc : List S66), (i : Int) + (d : Int) = B → acc.length = i → 0 ≤ p → p ≤ (l.length : Int) → d + 200 < k →
    impl_GetMan.l0 k l p B (i : Int) g s n acc = some (finMan g s n (getSumsOk l d p acc)) := by
  induction d with
  | zero =>
    intro k i p acc hi ha h0 h1 hk
    obtain ⟨k, rfl⟩ : ∃ m, k = m + 1 := ⟨k - 1, by omega⟩
    simp only [impl_GetMan.l0]
    rw [if_neg (by omega), impl_ManOk_v g s n (by omega) (by omega), Option.bind_some]
    simp only [getSumsOk, finMan, noMan]
    split <;> rfl
  | succ d ih =>
    intro k i p acc hi ha h0 h1 hk
    obtain ⟨k, rfl⟩ : ∃ m, k = m + 1 := ⟨k - 1, by omega⟩
    simp only [impl_GetMan.l0]
    have h8 := impl_readVar_v (k := k) hb hl (a := p) (by omega) (by omega) (by omega : 8 ≤ 8) (by omega)
    rw [show ((8 : Nat) : Int) = 8 from rfl] at h8
    rw [if_pos (by omega), h8, Option.bind_some, impl_BytesOf_v _ (by omega), Option.bind_some, getSumsOk]
    by_cases hr : (rdv l p 8 0 0).2.2 = true
    · have hq := rdv_range hb p 8 0 0 (by omega) hr
      by_cases hs : (bytesOfS (rdv l p 8 0 0).1).2 = true
      · obtain ⟨e1, e2⟩ := bytesOfS_sum hs
        have e3 : (sumOf (bytesOfS (rdv l p 8 0 0).1).1).2 = (rdv l p 8 0 0).1 := by unfold sumOf; rw [if_pos (bytesOfS_length _)]; exact e1
        rw [if_pos hr, if_pos hs, if_pos ⟨hr, hs⟩, impl_SumOf_v e2 (by omega), Option.bind_some, if_pos (by omega), wnat (by omega), e3]
        exact ih k (i + 1) _ _ (by omega) (by simp [ha]) (by omega) (by omega) (by omega)
      · rw [if_pos hr, if_neg hs, if_neg (fun e => hs e.2)]; rfl
    · rw [if_neg hr, if_neg (fun e => hr e.1)]; rfl
theorem impl_GetMan_v {k : Nat} {l : List Int} (hb : Byt l) (hl : l.length ≤ 140737488351232) {a : Int} (ha0 : -9223372036854775808 ≤ a) (ha1 : a ≤ 9223372036854775807) (hk : 400 < k) : impl_GetMan.f k l a = some (getMan l a) := by
  have h3 := getVar_at hb hl (getVar l (getVar l a).2.1).2.1
  unfold impl_GetMan.f getMan
  rw [impl_readVars_v hb hl ha0 ha1 (by omega), Option.bind_some]
  generalize getVar l a = v1 at *
  generalize getVar l v1.2.1 = v2 at *
  generalize getVar l v2.2.1 = v3 at *
  by_cases hc : v1.2.2 = true ∧ v2.2.2 = true ∧ v3.2.2 = true
  · rw [if_pos hc, if_pos hc]
    have hB := blocks_le v2.1 v3.1
    have h := impl_GetMan_l hb hl v1.1 v2.1 v3.1 (blocks v2.1 v3.1) hB (blocks v2.1 v3.1).toNat k 0 v3.2.1 [] (by omega) rfl h3.1 h3.2 (by omega)
    rw [show ((0 : Nat) : Int) = 0 from rfl] at h
    have r0 : rd [v1.1, v2.1, v3.1] 0 = v1.1 := rfl
    have r1 : rd [v1.1, v2.1, v3.1] 1 = v2.1 := rfl
    have r2 : rd [v1.1, v2.1, v3.1] 2 = v3.1 := rfl
    dsimp only
    rw [if_pos rfl, if_pos (by simp), if_pos (by simp), if_pos (by simp), r0, r1, r2, impl_Blocks_v, Option.bind_some, h]
  · rw [if_neg hc, if_neg hc]; simp [noMan]

theorem FnExactGetMan : laws_FnExactGetMan.Pure := by
  intro l a hm hr hw ha
  have ha := wf_i64 ha
  have hb : Byt l := fun x hx => wf_u8 (hw x hx)
  refine exists_ge 1048980 _ (fun k hk => ?_)
  unfold laws_FnExactGetMan.f
  by_cases hbig : (l.length : Int) > 1048576
  · rw [if_pos hbig]
  · rw [if_neg hbig]
    have hs := getMan_len l a
    have h1 := fun (j : Nat) (hj : 400 < j) => spec_GetMan_v (k := j) hb (by omega) ha.1 ha.2 hj
    have h2 := fun (j : Nat) (hj : 400 < j) => impl_GetMan_v (k := j) hb (by omega) ha.1 ha.2 hj
    obtain ⟨k, rfl⟩ : ∃ m, k = m + 4 := ⟨k - 4, by omega⟩
    have n1 : ¬ (1 + (l.length : Int) < 0) := by omega
    have n2 : ¬ (1 + 2 * ((getMan l a).2.2.2.1.length : Int) < 0) := by omega
    simp (disch := omega) only [laws_toByteS_v, h1, h2, laws_eqByteS_v, laws_eqManifest_v, laws_markByteS_v, laws_markManifest_v, laws_heldManifest_v, n1, n2, Option.bind_some, decide_true, if_true, if_false, bne_self_eq_false, Bool.false_eq_true, Bool.not_true, Bool.not_false]
    simp only [laws_FnExactGetMan.j0, Bool.false_eq_true, if_false]
    simp (disch := omega) only [laws_toByteS_v, h1, h2, laws_eqByteS_v, laws_eqManifest_v, laws_markByteS_v, laws_markManifest_v, laws_heldManifest_v, n1, n2, Option.bind_some, decide_true, if_true, if_false, bne_self_eq_false, Bool.false_eq_true, Bool.not_true, Bool.not_false]
    simp only [laws_FnExactGetMan.j1, Bool.false_eq_true, if_false]
    simp (disch := omega) only [laws_toByteS_v, h1, h2, laws_eqByteS_v, laws_eqManifest_v, laws_markByteS_v, laws_markManifest_v, laws_heldManifest_v, n1, n2, Option.bind_some, decide_true, if_true, if_false, bne_self_eq_false, Bool.false_eq_true, Bool.not_true, Bool.not_false]
    simp only [laws_FnExactGetMan.j2, Bool.false_eq_true, if_false]
    simp (disch := omega) only [laws_toByteS_v, h1, h2, laws_eqByteS_v, laws_eqManifest_v, laws_markByteS_v, laws_markManifest_v, laws_heldManifest_v, n1, n2, Option.bind_some, decide_true, if_true, if_false, bne_self_eq_false, Bool.false_eq_true, Bool.not_true, Bool.not_false]

end Go.Proofs.Ytdkgcloempbgpaa.Pure
