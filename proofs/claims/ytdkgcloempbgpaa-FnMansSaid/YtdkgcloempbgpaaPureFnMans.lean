/- For all draws: a manifest matches its image and no other one of its block size; it is decoded from its encoding; no condition. -/
import Derived.Test.YtdkgcloempbgpaaPFnMansx11
import Derived.Test.YtdkgcloempbgpaaVLib
set_option linter.unusedVariables false
set_option linter.unusedSimpArgs false
namespace Go.Proofs.Ytdkgcloempbgpaa.Pure
open Go.RowKit Go.Proofs.Ytdkgcloempbgpaa.PFnMans Go.Proofs.YtdkgcloempbgpaaW.PrintWords Go.Proofs.YtdkgcloempbgpaaW.PrintLast Go.Proofs.YtdkgcloempbgpaaW.PrintMore Go.Proofs.Ytdkgcloempbgpaa.Lib
instance : DecidableEq S66 := fun a b => decidable_of_iff (a.f0 = b.f0 ∧ a.f1 = b.f1) ⟨fun h => by cases a; cases b; simp_all, fun h => by rw [h]; exact ⟨rfl, rfl⟩⟩
def toS (p : Int × Int) : S66 := ⟨p.1, p.2⟩
def toSs (l : List (Int × Int)) : List S66 := l.map toS
theorem toS_inj {p q : Int × Int} (h : toS p = toS q) : p = q := by
  have h1 := congrArg S66.f0 h
  have h2 := congrArg S66.f1 h
  exact Prod.ext h1 h2
theorem toSs_inj {l m : List (Int × Int)} (h : toSs l = toSs m) : l = m := (List.map_inj_right (fun p q hq => toS_inj hq)).1 h
theorem toSs_length (l : List (Int × Int)) : (toSs l).length = l.length := by simp [toSs]
theorem rd_S {l : List S66} {i : Nat} (h : i < l.length) : rd_T66 l (i : Int) = l[i] := by
  unfold rd_T66
  rw [Int.toNat_natCast, List.getD_eq_getElem?_getD, List.getElem?_eq_getElem h]; rfl
theorem drop_eq_iffS {a b : List S66} {i : Nat} (ha : i < a.length) (hb : i < b.length) : (a.drop i = b.drop i) ↔ (a[i] = b[i] ∧ a.drop (i + 1) = b.drop (i + 1)) := by
  rw [List.drop_eq_getElem_cons ha, List.drop_eq_getElem_cons hb, List.cons.injEq]
theorem S_eq_iff {a b : S66} : (a.f0, a.f1) = (b.f0, b.f1) ↔ a = b := by cases a; cases b; simp
theorem spec_l1In_v (a b c : Int) : spec_l1In.f a b c = some (decide (b ≤ a ∧ a ≤ c)) := by
  unfold spec_l1In.f
  by_cases h : b ≤ a
  · rw [if_pos h]; simp [h]
  · rw [if_neg h]; simp [h]
theorem impl_within_v (a b c : Int) : impl_within.f a b c = some (decide (b ≤ a ∧ a ≤ c)) := by
  unfold impl_within.f
  by_cases h : b ≤ a
  · rw [if_pos h]; simp [h]
  · rw [if_neg h]; simp [h]
theorem impl_Wrap_v {a m : Int} (h0 : 1 ≤ m) (h1 : m ≤ 1000000000000) : impl_Wrap.f a m = some (a % m) := by
  unfold impl_Wrap.f
  rw [impl_within_v, Option.bind_some, decide_eq_true (by omega), if_pos rfl, if_neg (by omega)]
  have h2 : a.tmod m = a - m * a.tdiv m := by have := Int.mul_tdiv_add_tmod a m; omega
  have h3 : -m < a.tmod m ∧ a.tmod m < m := ⟨by have := Int.lt_tmod_of_pos a (by omega : 0 < m); omega, Int.tmod_lt_of_pos a (by omega)⟩
  rw [w64 (by omega) (by omega), tmod_nn (by omega), Int.add_emod_right, h2, Int.sub_mul_emod_self_left]
theorem impl_weak_v (x y : Int) : impl_weak.f x y = some (x % 251 + 251 * (y % 251)) := by
  unfold impl_weak.f
  rw [impl_Wrap_v (by omega) (by omega), impl_Wrap_v (by omega) (by omega)]
  simp only [Option.bind_some]
  rw [w64 (x := 251 * (y % 251)) (by omega) (by omega), w64 (by omega) (by omega)]
theorem spec_WeakOf_l (l : List Int) (hb : Byt l) (hl : l.length ≤ 140737488351232) (d : Nat) : ∀ (k : Nat) (i : Nat), i ≤ l.length → l.length - i = d → d < k →
    spec_WeakOf.l0 k l (sx (l.take i) % 251) (sy (l.take i) % 251) (i : Int) = some (weakOf l) := by
  induction d with
  | zero =>
    intro k i hi hd hk
    obtain ⟨k, rfl⟩ : ∃ m, k = m + 1 := ⟨k - 1, by omega⟩
    simp only [spec_WeakOf.l0]
    rw [if_neg (by omega), List.take_of_length_le (by omega), w64 (x := 251 * (sy l % 251)) (by omega) (by omega), w64 (by omega) (by omega)]
    rfl
  | succ d ih =>
    intro k i hi hd hk
    obtain ⟨k, rfl⟩ : ∃ m, k = m + 1 := ⟨k - 1, by omega⟩
    simp only [spec_WeakOf.l0]
    have hc := hb l[i] (List.getElem_mem (by omega))
    rw [if_pos (by omega), if_pos (by omega), wnat (by omega), rd_at (by omega : i < l.length), w64 (x := l[i]) (by omega) (by omega), w64 (by omega) (by omega), tmod_nn (by omega), w64 (by omega) (by omega), tmod_nn (by omega)]
    have e : l.take (i + 1) = l.take i ++ [l[i]] := List.take_succ_eq_append_getElem (by omega)
    have := ih k (i + 1) (by omega) (by omega) (by omega)
    rw [e, sx_snoc, sy_snoc] at this
    rw [show (sx (l.take i) % 251 + l[i]) % 251 = (sx (l.take i) + l[i]) % 251 from by omega, show (sy (l.take i) % 251 + (sx (l.take i) + l[i]) % 251) % 251 = (sy (l.take i) + sx (l.take i) + l[i]) % 251 from by omega]
    exact this
theorem spec_WeakOf_v {k : Nat} {l : List Int} (hb : Byt l) (hl : l.length ≤ 140737488351232) (hk : l.length < k) : spec_WeakOf.f k l = some (weakOf l) := by
  unfold spec_WeakOf.f
  exact spec_WeakOf_l l hb hl l.length k 0 (by omega) (by omega) hk
theorem impl_WeakOf_l (l : List Int) (hb : Byt l) (hl : l.length ≤ 140737488351232) (d : Nat) : ∀ (k : Nat) (i : Nat), i ≤ l.length → l.length - i = d → d < k →
    impl_WeakOf.l0 k (sx (l.take i) % 251) (sy (l.take i) % 251) l (l.length : Int) (i : Int) = some (weakOf l) := by
  induction d with
  | zero =>
    intro k i hi hd hk
    obtain ⟨k, rfl⟩ : ∃ m, k = m + 1 := ⟨k - 1, by omega⟩
    simp only [impl_WeakOf.l0]
    rw [if_neg (by omega), impl_weak_v, List.take_of_length_le (by omega)]
    simp only [Option.bind_some, weakOf, Int.emod_emod]
  | succ d ih =>
    intro k i hi hd hk
    obtain ⟨k, rfl⟩ : ∃ m, k = m + 1 := ⟨k - 1, by omega⟩
    simp only [impl_WeakOf.l0]
    have hc := hb l[i] (List.getElem_mem (by omega))
    rw [if_pos (by omega), if_pos (by omega), if_pos (by omega), wnat (by omega), rd_at (by omega : i < l.length), w64 (x := l[i]) (by omega) (by omega), w64 (by omega) (by omega), tmod_nn (by omega), w64 (by omega) (by omega), tmod_nn (by omega)]
    have e : l.take (i + 1) = l.take i ++ [l[i]] := List.take_succ_eq_append_getElem (by omega)
    have := ih k (i + 1) (by omega) (by omega) (by omega)
    rw [e, sx_snoc, sy_snoc] at this
    rw [show (sx (l.take i) % 251 + l[i]) % 251 = (sx (l.take i) + l[i]) % 251 from by omega, show (sy (l.take i) % 251 + (sx (l.take i) + l[i]) % 251) % 251 = (sy (l.take i) + sx (l.take i) + l[i]) % 251 from by omega]
    exact this
theorem impl_WeakOf_v {k : Nat} {l : List Int} (hb : Byt l) (hl : l.length ≤ 140737488351232) (hk : l.length < k) : impl_WeakOf.f k l = some (weakOf l) := by
  unfold impl_WeakOf.f
  exact impl_WeakOf_l l hb hl l.length k 0 (by omega) (by omega) hk
theorem spec_SizeOk_v (s n : Int) : spec_SizeOk.f s n = some (sizeOk s n) := by
  unfold spec_SizeOk.f sizeOk
  rw [spec_l1In_v]
  simp only [Option.bind_some]
  by_cases h : 2 ≤ s ∧ s ≤ 6
  · rw [decide_eq_true h, if_pos rfl, spec_l1In_v, w64 (by omega) (by omega)]
    simp [h]
  · rw [decide_eq_false h, if_neg (by decide)]
    have : ¬ (2 ≤ s ∧ s ≤ 6 ∧ 0 ≤ n ∧ n ≤ s * 40) := fun g => h ⟨g.1, g.2.1⟩
    rw [decide_eq_false this]
theorem impl_SizeOk_v (s n : Int) : impl_SizeOk.f s n = some (sizeOk s n) := by
  unfold impl_SizeOk.f sizeOk
  rw [impl_within_v]
  simp only [Option.bind_some]
  by_cases h : 2 ≤ s ∧ s ≤ 6
  · rw [decide_eq_true h, if_pos rfl, impl_within_v, Int.mul_comm 40 s, w64 (by omega) (by omega)]
    simp [h]
  · rw [decide_eq_false h, if_neg (by decide)]
    have : ¬ (2 ≤ s ∧ s ≤ 6 ∧ 0 ≤ n ∧ n ≤ s * 40) := fun g => h ⟨g.1, g.2.1⟩
    rw [decide_eq_false this]
theorem spec_CeilDiv_v {a b : Int} (h0 : 0 ≤ a) (h1 : a ≤ 1000000000000) (h2 : 1 ≤ b) (h3 : b ≤ 1000000000000) : spec_CeilDiv.f a b = some ((a + b - 1) / b) := by
  unfold spec_CeilDiv.f
  rw [spec_l1In_v, Option.bind_some, decide_eq_true (by omega), if_pos rfl, spec_l1In_v, Option.bind_some, decide_eq_true (by omega), if_pos rfl, if_neg (by omega), w64 (x := a + b) (by omega) (by omega), w64 (x := a + b - 1) (by omega) (by omega), tdiv_nn (by omega)]
  have h4 : 0 ≤ (a + b - 1) / b := Int.ediv_nonneg (by omega) (by omega)
  have h5 : (a + b - 1) / b ≤ a + b - 1 := Int.ediv_le_self _ (by omega)
  rw [w64 (by omega) (by omega)]
theorem impl_CeilDiv_v {a b : Int} (h0 : 0 ≤ a) (h1 : a ≤ 1000000000000) (h2 : 1 ≤ b) (h3 : b ≤ 1000000000000) : impl_CeilDiv.f a b = some ((a + b - 1) / b) := by
  unfold impl_CeilDiv.f
  rw [impl_within_v, Option.bind_some, decide_eq_true (by omega), if_pos rfl, impl_within_v, Option.bind_some, decide_eq_true (by omega), if_pos rfl, if_neg (by omega), w64 (x := a + b) (by omega) (by omega), w64 (x := a + b - 1) (by omega) (by omega), tdiv_nn (by omega)]
  have h4 : 0 ≤ (a + b - 1) / b := Int.ediv_nonneg (by omega) (by omega)
  have h5 : (a + b - 1) / b ≤ a + b - 1 := Int.ediv_le_self _ (by omega)
  rw [w64 (by omega) (by omega)]
theorem spec_Blocks_v (s n : Int) : spec_Blocks.f s n = some (blocks s n) := by
  unfold spec_Blocks.f blocks
  rw [spec_SizeOk_v, Option.bind_some]
  by_cases h : sizeOk s n = true
  · obtain ⟨h0, h1, h2, h3⟩ := sizeOk_iff.1 h
    rw [if_pos h, if_pos h, spec_CeilDiv_v (by omega) (by omega) (by omega) (by omega)]
    rfl
  · rw [if_neg h, if_neg h]
theorem impl_Blocks_v (s n : Int) : impl_Blocks.f s n = some (blocks s n) := by
  unfold impl_Blocks.f blocks
  rw [impl_SizeOk_v, Option.bind_some]
  by_cases h : sizeOk s n = true
  · obtain ⟨h0, h1, h2, h3⟩ := sizeOk_iff.1 h
    rw [if_pos h, if_pos h, impl_CeilDiv_v (by omega) (by omega) (by omega) (by omega)]
    rfl
  · rw [if_neg h, if_neg h]
theorem spec_Least_v (a b : Int) : spec_Least.f a b = some (mn a b) := by
  unfold spec_Least.f mn
  by_cases h : b < a
  · rw [if_pos h, if_pos h]
  · rw [if_neg h, if_neg h]
theorem spec_SpanOf_v (s n i : Int) : spec_SpanOf.f s n i = some (spanOf s n i) := by
  unfold spec_SpanOf.f spanOf
  rw [spec_Blocks_v, Option.bind_some, spec_l1In_v, Option.bind_some]
  have hb := blocks_le s n
  rw [w64 (x := blocks s n - 1) (by omega) (by omega)]
  by_cases h : 0 ≤ i ∧ i ≤ blocks s n - 1
  · obtain ⟨h0, h1, h2, h3, h4, h5, h6⟩ := span_in h.1 h.2
    rw [decide_eq_true h, if_pos rfl, if_pos h, spec_Least_v, Option.bind_some, w64 (x := i * s) (by omega) (by omega), w64 (by omega) (by omega)]
  · rw [decide_eq_false h, if_neg (by decide), if_neg h]
theorem impl_SpanOf_v (s n i : Int) : impl_SpanOf.f s n i = some (spanOf s n i) := by
  unfold impl_SpanOf.f spanOf
  rw [impl_Blocks_v, Option.bind_some, impl_within_v, Option.bind_some]
  have hb := blocks_le s n
  rw [w64 (x := blocks s n - 1) (by omega) (by omega)]
  by_cases h : 0 ≤ i ∧ i ≤ blocks s n - 1
  · obtain ⟨h0, h1, h2, h3, h4, h5, h6⟩ := span_in h.1 h.2
    rw [decide_eq_true h, if_pos rfl, if_pos h, w64 (x := i * s) (by omega) (by omega), w64 (by omega) (by omega)]
  · rw [decide_eq_false h, if_neg (by decide), if_neg h]
theorem impl_readVar_l (l : List Int) (hb : Byt l) (hl : l.length ≤ 140737488351232) (a : Int) (ha0 : -9223372036854775808 ≤ a) (ha1 : a ≤ 9223372036854775807) (most : Nat) (hm : most ≤ 8) (d : Nat) : ∀ (k j : Nat) (n : Int), j + d = most → 0 ≤ n → n < 128 ^ j → d < k →
    impl_readVar.l0 k l a n (most : Int) (j : Int) = some (rdv l a d j n) := by
  induction d with
  | zero =>
    intro k j n hj hn0 hn hk
    obtain ⟨k, rfl⟩ : ∃ m, k = m + 1 := ⟨k - 1, by omega⟩
    simp only [impl_readVar.l0]
    rw [if_neg (by omega)]
    simp [rdv]
  | succ d ih =>
    intro k j n hj hn0 hn hk
    obtain ⟨k, rfl⟩ : ∃ m, k = m + 1 := ⟨k - 1, by omega⟩
    simp only [impl_readVar.l0]
    rw [if_pos (by omega), impl_within_v, Option.bind_some, w64 (x := (l.length : Int) - 1) (by omega) (by omega), w64 (x := (l.length : Int) - 1 - j) (by omega) (by omega)]
    by_cases hin : 0 ≤ a ∧ a + (j : Int) < (l.length : Int)
    · have hx := rd_byt hb (a + (j : Int))
      have hs := var_step (j := j) n (rd l (a + (j : Int)) % 128) hn0 hn (by omega) (by omega)
      rw [if_pos (decide_eq_true (by omega)), w64 (x := a + (j : Int)) (by omega) (by omega), if_pos (by omega), if_pos (by omega), w64 (x := 7 * (j : Int)) (by omega) (by omega), if_pos (by omega), w64 (x := rd l (a + (j : Int))) (by omega) (by omega),
        and127 hx.1 hx.2, shl7 (by omega) (by omega) (by omega), orVar (by omega) hn0 hn (by omega) (by omega)]
      rw [rdv, if_pos hin]
      by_cases h128 : rd l (a + (j : Int)) < 128
      · rw [if_pos h128, if_pos h128]
        have e : rd l (a + (j : Int)) % 128 = rd l (a + (j : Int)) := by omega
        rw [e, w64 (x := a + (j : Int) + 1) (by omega) (by omega)]
        by_cases hj0 : (j : Int) = 0
        · rw [if_pos hj0]
          have hd : decide (j = 0 ∨ 0 < rd l (a + (j : Int))) = true := decide_eq_true (Or.inl (by omega))
          rw [hd]
        · rw [if_neg hj0]
          have hj1 : ¬ j = 0 := by omega
          simp [hj1]
      · rw [if_neg h128, if_neg h128]
        have e : rd l (a + (j : Int)) % 128 = rd l (a + (j : Int)) - 128 := by omega
        rw [e] at hs ⊢
        rw [w64 (x := (j : Int) + 1) (by omega) (by omega)]
        exact ih k (j + 1) _ (by omega) hs.1 hs.2 (by omega)
    · rw [if_neg (by simp; omega), rdv, if_neg hin]
theorem impl_readVar_v {k : Nat} {l : List Int} (hb : Byt l) (hl : l.length ≤ 140737488351232) {a : Int} (ha0 : -9223372036854775808 ≤ a) (ha1 : a ≤ 9223372036854775807) {most : Nat} (hm : most ≤ 8) (hk : 20 < k) : impl_readVar.f k l a (most : Int) = some (rdv l a most 0 0) := by
  unfold impl_readVar.f
  exact impl_readVar_l l hb hl a ha0 ha1 most hm most k 0 0 (by omega) (by omega) (by decide) (by omega)
theorem impl_GetVar_v {k : Nat} {l : List Int} (hb : Byt l) (hl : l.length ≤ 140737488351232) {a : Int} (ha0 : -9223372036854775808 ≤ a) (ha1 : a ≤ 9223372036854775807) (hk : 20 < k) : impl_GetVar.f k l a = some (getVar l a) := by
  unfold impl_GetVar.f getVar
  have h := impl_readVar_v hb hl ha0 ha1 (by omega : 6 ≤ 8) hk
  rw [show ((6 : Nat) : Int) = 6 from rfl] at h
  rw [h, Option.bind_some]
  generalize rdv l a 6 0 0 = r
  by_cases h1 : r.2.2 = true
  · rw [if_pos h1]
    by_cases h2 : r.1 > 1000000000000
    · rw [if_pos h2, if_neg (by omega)]
    · rw [if_neg h2, if_pos ⟨h1, by omega⟩, ← h1]
  · rw [if_neg h1, if_neg (fun h => h1 h.1)]
theorem impl_cloned_v {l : List Int} (hl : l.length ≤ 140737488351232) : impl_cloned.f l = some l := by
  unfold impl_cloned.f
  rw [if_pos (by omega), if_pos (by omega)]
  simp only [List.replicate_zero, Option.bind_some, List.nil_append, List.length_nil]
  rw [if_pos (by omega)]
theorem impl_Slice_v {l : List Int} (hl : l.length ≤ 140737488351232) (a n : Int) : impl_Slice.f l a n = some (sliceB l a n) := by
  unfold impl_Slice.f sliceB
  rw [impl_within_v, Option.bind_some]
  by_cases h0 : 0 ≤ a ∧ a ≤ (l.length : Int)
  · rw [decide_eq_true h0, if_pos rfl, impl_within_v, Option.bind_some, w64 (x := (l.length : Int) - a) (by omega) (by omega)]
    by_cases h1 : 0 ≤ n ∧ n ≤ (l.length : Int) - a
    · rw [decide_eq_true h1, if_pos rfl, w64 (x := a + n) (by omega) (by omega), if_pos (by omega), if_pos (by omega), if_pos (by omega), impl_cloned_v (by simp; omega), if_pos ⟨by omega, by omega, by omega, by omega⟩]
      rfl
    · rw [decide_eq_false h1, if_neg (by decide), if_neg (by omega)]
  · rw [decide_eq_false h0, if_neg (by decide), if_neg (by omega)]
theorem impl_BytesOf_in (s : Int) (n : Nat) (hn : n ≤ 6) (d : Nat) : ∀ (k : Nat) (out : List Int) (i : Nat), out.length = n → i ≤ n → n - i = d → d < k → (∀ j, j < i → out[j]? = (dg n s)[j]?) →
    impl_BytesOf.l1 k s (n : Int) out (n : Int) (i : Int) = some (dg n s, true) := by
  induction d with
  | zero =>
    intro k out i ho hi hd hk hj
    obtain ⟨k, rfl⟩ : ∃ m, k = m + 1 := ⟨k - 1, by omega⟩
    simp only [impl_BytesOf.l1]
    rw [if_neg (by omega), ext_all ho (dg_length n s) (fun j h => hj j (by omega))]
  | succ d ih =>
    intro k out i ho hi hd hk hj
    obtain ⟨k, rfl⟩ : ∃ m, k = m + 1 := ⟨k - 1, by omega⟩
    simp only [impl_BytesOf.l1]
    rw [if_pos (by omega), w64 (x := (n : Int) - 1) (by omega) (by omega), w64 (x := (n : Int) - 1 - i) (by omega) (by omega), w64 (x := 8 * ((n : Int) - 1 - i)) (by omega) (by omega), if_pos (by omega), if_pos (by omega), if_pos (by omega), wnat (by omega),
      show (n : Int) - 1 - i = ((n - 1 - i : Nat) : Int) from by omega, shr8 s (by omega)]
    exact ih k _ (i + 1) (by simp [ho]) (by omega) (by omega) (by omega) (set_step (by omega) hj (dg_get n s i (by omega)))
theorem impl_BytesOf_go (s : Int) (t : Nat) (ht : t ≤ 6) (hlast : t = 6 ∨ s / 256 ^ t ≤ 1) (d : Nat) : ∀ (k n : Nat), n ≤ t → t - n = d → d < k → (∀ m, n ≤ m → m < t → s / 256 ^ m > 1) → impl_BytesOf.l0 k s (n : Int) = impl_BytesOf.j1 (k - d - 1) s (t : Int) := by
  induction d with
  | zero =>
    intro k n hn hd hk hm
    obtain ⟨k, rfl⟩ : ∃ m, k = m + 1 := ⟨k - 1, by omega⟩
    obtain rfl : n = t := by omega
    simp only [impl_BytesOf.l0]
    by_cases h6 : n = 6
    · rw [if_neg (by omega)]; rfl
    · rw [if_pos (by omega), w64 (x := 8 * (n : Int)) (by omega) (by omega), if_pos (by omega), shr8 s (by omega), if_neg (by omega)]; rfl
  | succ d ih =>
    intro k n hn hd hk hm
    obtain ⟨k, rfl⟩ : ∃ m, k = m + 1 := ⟨k - 1, by omega⟩
    simp only [impl_BytesOf.l0]
    rw [if_pos (by omega), w64 (x := 8 * (n : Int)) (by omega) (by omega), if_pos (by omega), shr8 s (by omega), if_pos (hm n (by omega) (by omega)), wnat (by omega), ih k (n + 1) (by omega) (by omega) (by omega) (fun m h1 h2 => hm m (by omega) h2)]
    congr 1; omega
theorem impl_BytesOf_yes (s : Int) (t : Nat) (ht : t ≤ 6) (hs : s / 256 ^ t = 1) (hs1 : 1 ≤ s) {k : Nat} (hk : 20 < k) (hm : ∀ m, m < t → s / 256 ^ m > 1) : impl_BytesOf.f k s = some (dg t s, true) := by
  unfold impl_BytesOf.f
  have h := impl_BytesOf_go s t ht (Or.inr (by omega)) t k 0 (by omega) (by omega) (by omega) (fun m _ h => hm m h)
  rw [show ((0 : Nat) : Int) = 0 from rfl] at h
  rw [h]
  obtain ⟨k', hk'⟩ : ∃ m, k - t - 1 = m + 2 := ⟨k - t - 3, by omega⟩
  rw [hk']
  simp only [impl_BytesOf.j1]
  rw [if_neg (by omega), w64 (x := 8 * (t : Int)) (by omega) (by omega), if_pos (by omega), shr8 s (by omega), hs]
  simp only [impl_BytesOf.j2, bne_self_eq_false]
  rw [if_neg (by decide), if_pos (by omega), if_pos (by omega), Option.bind_some, Int.toNat_natCast, List.length_replicate]
  exact impl_BytesOf_in s t ht t k' _ 0 (by simp) (by omega) (by omega) (by omega) (fun j h => by omega)
theorem impl_BytesOf_not (s : Int) (t : Nat) (ht : t ≤ 6) (hs : s / 256 ^ t ≠ 1) (hlast : t = 6 ∨ s / 256 ^ t ≤ 1) {k : Nat} (hk : 20 < k) (hm : ∀ m, m < t → s / 256 ^ m > 1) : impl_BytesOf.f k s = some ([], false) := by
  unfold impl_BytesOf.f
  have h := impl_BytesOf_go s t ht hlast t k 0 (by omega) (by omega) (by omega) (fun m _ h => hm m h)
  rw [show ((0 : Nat) : Int) = 0 from rfl] at h
  rw [h]
  obtain ⟨k', hk'⟩ : ∃ m, k - t - 1 = m + 2 := ⟨k - t - 3, by omega⟩
  rw [hk']
  simp only [impl_BytesOf.j1]
  by_cases h1 : s < 1
  · rw [if_pos h1]; simp only [impl_BytesOf.j2, if_true]
  · rw [if_neg h1, w64 (x := 8 * (t : Int)) (by omega) (by omega), if_pos (by omega), shr8 s (by omega)]
    have hb : (s / 256 ^ t != 1) = true := bne_iff_ne.2 hs
    rw [hb]; simp only [impl_BytesOf.j2, if_true]
theorem below7 {P : Nat → Prop} {t : Nat} (ht : t ≤ 6) (h : (0 < t → P 0) ∧ (1 < t → P 1) ∧ (2 < t → P 2) ∧ (3 < t → P 3) ∧ (4 < t → P 4) ∧ (5 < t → P 5)) : ∀ m, m < t → P m := by
  intro m hm
  rcases (by omega : m = 0 ∨ m = 1 ∨ m = 2 ∨ m = 3 ∨ m = 4 ∨ m = 5) with rfl | rfl | rfl | rfl | rfl | rfl
  · exact h.1 hm
  · exact h.2.1 hm
  · exact h.2.2.1 hm
  · exact h.2.2.2.1 hm
  · exact h.2.2.2.2.1 hm
  · exact h.2.2.2.2.2 hm
theorem impl_BytesOf_v {k : Nat} (s : Int) (hk : 20 < k) : impl_BytesOf.f k s = some (bytesOfS s) := by
  have yes := fun (t : Nat) (h : t ≤ 6) h1 h2 h3 => impl_BytesOf_yes s t h h1 h2 hk h3
  have nope := fun (t : Nat) (h : t ≤ 6) h1 h2 h3 => impl_BytesOf_not s t h h1 h2 hk h3
  unfold bytesOfS
  by_cases c0 : s < 1
  · rw [if_pos c0, nope 0 (by omega) (by omega) (Or.inr (by omega)) (fun m h => by omega)]
  rw [if_neg c0]
  by_cases c1 : s < 2
  · rw [if_pos c1, yes 0 (by omega) (by omega) (by omega) (fun m h => by omega)]; rfl
  rw [if_neg c1]
  by_cases c2 : s < 256
  · rw [if_pos c2, nope 1 (by omega) (by omega) (Or.inr (by omega)) (below7 (by omega) ⟨by omega, by omega, by omega, by omega, by omega, by omega⟩)]
  rw [if_neg c2]
  by_cases c3 : s < 512
  · rw [if_pos c3, yes 1 (by omega) (by omega) (by omega) (below7 (by omega) ⟨by omega, by omega, by omega, by omega, by omega, by omega⟩)]
  rw [if_neg c3]
  by_cases c4 : s < 65536
  · rw [if_pos c4, nope 2 (by omega) (by omega) (Or.inr (by omega)) (below7 (by omega) ⟨by omega, by omega, by omega, by omega, by omega, by omega⟩)]
  rw [if_neg c4]
  by_cases c5 : s < 131072
  · rw [if_pos c5, yes 2 (by omega) (by omega) (by omega) (below7 (by omega) ⟨by omega, by omega, by omega, by omega, by omega, by omega⟩)]
  rw [if_neg c5]
  by_cases c6 : s < 16777216
  · rw [if_pos c6, nope 3 (by omega) (by omega) (Or.inr (by omega)) (below7 (by omega) ⟨by omega, by omega, by omega, by omega, by omega, by omega⟩)]
  rw [if_neg c6]
  by_cases c7 : s < 33554432
  · rw [if_pos c7, yes 3 (by omega) (by omega) (by omega) (below7 (by omega) ⟨by omega, by omega, by omega, by omega, by omega, by omega⟩)]
  rw [if_neg c7]
  by_cases c8 : s < 4294967296
  · rw [if_pos c8, nope 4 (by omega) (by omega) (Or.inr (by omega)) (below7 (by omega) ⟨by omega, by omega, by omega, by omega, by omega, by omega⟩)]
  rw [if_neg c8]
  by_cases c9 : s < 8589934592
  · rw [if_pos c9, yes 4 (by omega) (by omega) (by omega) (below7 (by omega) ⟨by omega, by omega, by omega, by omega, by omega, by omega⟩)]
  rw [if_neg c9]
  by_cases c10 : s < 1099511627776
  · rw [if_pos c10, nope 5 (by omega) (by omega) (Or.inr (by omega)) (below7 (by omega) ⟨by omega, by omega, by omega, by omega, by omega, by omega⟩)]
  rw [if_neg c10]
  by_cases c11 : s < 2199023255552
  · rw [if_pos c11, yes 5 (by omega) (by omega) (by omega) (below7 (by omega) ⟨by omega, by omega, by omega, by omega, by omega, by omega⟩)]
  rw [if_neg c11]
  by_cases c12 : s < 281474976710656
  · rw [if_pos c12, nope 6 (by omega) (by omega) (Or.inl rfl) (below7 (by omega) ⟨by omega, by omega, by omega, by omega, by omega, by omega⟩)]
  rw [if_neg c12]
  by_cases c13 : s < 562949953421312
  · rw [if_pos c13, yes 6 (by omega) (by omega) (by omega) (below7 (by omega) ⟨by omega, by omega, by omega, by omega, by omega, by omega⟩)]
  · rw [if_neg c13, nope 6 (by omega) (by omega) (Or.inl rfl) (below7 (by omega) ⟨by omega, by omega, by omega, by omega, by omega, by omega⟩)]
theorem spec_SumOf_l (l : List Int) (hb : Byt l) (hl : l.length ≤ 6) (d : Nat) : ∀ (k : Nat) (i : Nat), i ≤ l.length → l.length - i = d → d + 10 < k → spec_SumOf.l0 k l (sumS (l.take i)) (i : Int) = some (weakOf l, sumS l) := by
  induction d with
  | zero =>
    intro k i hi hd hk
    obtain ⟨k, rfl⟩ : ∃ m, k = m + 1 := ⟨k - 1, by omega⟩
    simp only [spec_SumOf.l0]
    rw [if_neg (by omega), spec_WeakOf_v hb (by omega) (by omega), List.take_of_length_le (by omega)]; rfl
  | succ d ih =>
    intro k i hi hd hk
    obtain ⟨k, rfl⟩ : ∃ m, k = m + 1 := ⟨k - 1, by omega⟩
    simp only [spec_SumOf.l0]
    have hc := hb l[i] (List.getElem_mem (by omega))
    have h1 := sumS_small (l := l.take i) (byt_take hb i) (by simp; omega)
    rw [if_pos (by omega), if_pos (by omega), wnat (by omega), rd_at (by omega : i < l.length), w64 (x := 256 * sumS (l.take i)) (by omega) (by omega), w64 (x := l[i]) (by omega) (by omega), w64 (by omega) (by omega)]
    have e : l.take (i + 1) = l.take i ++ [l[i]] := List.take_succ_eq_append_getElem (by omega)
    have := ih k (i + 1) (by omega) (by omega) (by omega)
    rw [e, sumS_snoc, Int.mul_comm] at this
    exact this
theorem spec_SumOf_v {k : Nat} {l : List Int} (hb : Byt l) (hk : 20 < k) : spec_SumOf.f k l = some (sumOf l) := by
  unfold spec_SumOf.f sumOf
  by_cases h : l.length ≤ 6
  · rw [if_neg (by omega), if_pos h]
    exact spec_SumOf_l l hb h l.length k 0 (by omega) (by omega) (by omega)
  · rw [if_pos (by omega), if_neg h]
theorem impl_SumOf_l (l : List Int) (hb : Byt l) (hl : l.length ≤ 6) (d : Nat) : ∀ (k : Nat) (i : Nat), i ≤ l.length → l.length - i = d → d + 10 < k → impl_SumOf.l0 k l (sumS (l.take i)) l (l.length : Int) (i : Int) = some (weakOf l, sumS l) := by
  induction d with
  | zero =>
    intro k i hi hd hk
    obtain ⟨k, rfl⟩ : ∃ m, k = m + 1 := ⟨k - 1, by omega⟩
    simp only [impl_SumOf.l0]
    rw [if_neg (by omega), impl_WeakOf_v hb (by omega) (by omega), List.take_of_length_le (by omega)]; rfl
  | succ d ih =>
    intro k i hi hd hk
    obtain ⟨k, rfl⟩ : ∃ m, k = m + 1 := ⟨k - 1, by omega⟩
    simp only [impl_SumOf.l0]
    have hc := hb l[i] (List.getElem_mem (by omega))
    have h1 := sumS_small (l := l.take i) (byt_take hb i) (by simp; omega)
    rw [if_pos (by omega), if_pos (by omega), if_pos (by omega), wnat (by omega), rd_at (by omega : i < l.length), w64 (x := sumS (l.take i) * 256) (by omega) (by omega), w64 (x := l[i]) (by omega) (by omega), or_256 (by omega) (by omega) hc.1 hc.2]
    have e : l.take (i + 1) = l.take i ++ [l[i]] := List.take_succ_eq_append_getElem (by omega)
    have := ih k (i + 1) (by omega) (by omega) (by omega)
    rw [e, sumS_snoc] at this
    exact this
theorem impl_SumOf_v {k : Nat} {l : List Int} (hb : Byt l) (hk : 20 < k) : impl_SumOf.f k l = some (sumOf l) := by
  unfold impl_SumOf.f sumOf
  by_cases h : l.length ≤ 6
  · rw [if_neg (by omega), if_pos h]
    exact impl_SumOf_l l hb h l.length k 0 (by omega) (by omega) (by omega)
  · rw [if_pos (by omega), if_neg h]
theorem impl_appendVar_l (f : Nat) : ∀ (k : Nat) (n : Int) (b : List Int), f ≤ 8 → 0 ≤ n → n < 128 ^ (f + 1) → b.length ≤ 140737488355000 - f → f < k → impl_appendVar.l0 k b n = some (b ++ vr f n) := by
  induction f with
  | zero =>
    intro k n b hf h0 h1 hb hk
    obtain ⟨k, rfl⟩ : ∃ m, k = m + 1 := ⟨k - 1, by omega⟩
    simp only [impl_appendVar.l0]
    rw [if_neg (by omega), if_pos (by omega), vr]
    rw [Int.emod_eq_of_lt (by omega) (by omega)]
  | succ f ih =>
    intro k n b hf h0 h1 hb hk
    obtain ⟨k, rfl⟩ : ∃ m, k = m + 1 := ⟨k - 1, by omega⟩
    simp only [impl_appendVar.l0]
    rw [Int.pow_succ] at h1
    rw [vr]
    by_cases h : n < 128
    · rw [if_neg (by omega), if_pos (by omega), if_pos h, Int.emod_eq_of_lt (by omega) (by omega)]
    · rw [if_pos (by omega), if_pos (by omega), if_neg h, or128u (by omega) (by omega), ih k _ _ (by omega) (by omega) (by omega) (by simp; omega) (by omega)]
      rw [show n % 256 % 128 = n % 128 from by omega]
      simp
theorem impl_appendVar_v {k : Nat} {l : List Int} (hl : l.length ≤ 140737488352000) {n : Int} (h0 : 0 ≤ n) (h1 : n < 9223372036854775808) (hk : 20 < k) : impl_appendVar.f k l n = some (l ++ vr 8 n) := by
  unfold impl_appendVar.f
  exact impl_appendVar_l 8 k n l (by omega) h0 (by omega) (by omega) (by omega)
theorem impl_PutVar_v {k : Nat} {l : List Int} (hl : l.length ≤ 140737488351232) (n : Int) (hk : 20 < k) : impl_PutVar.f k l n = some (putVar l n) := by
  unfold impl_PutVar.f putVar
  rw [impl_cloned_v hl, Option.bind_some, impl_within_v, Option.bind_some]
  by_cases h : 0 ≤ n ∧ n ≤ 1000000000000
  · rw [decide_eq_true h, if_pos rfl, if_pos h, impl_appendVar_v (by omega) h.1 (by omega) hk]; rfl
  · rw [decide_eq_false h, if_neg (by decide), if_neg h]
theorem spec_BlockAt_v {l : List Int} (hl : l.length ≤ 140737488351232) (s i : Int) : spec_BlockAt.f l s i = some (blockAt l s i) := by
  unfold spec_BlockAt.f blockAt
  rw [spec_SpanOf_v, Option.bind_some]
  have hg := spanOf_range s (l.length : Int) i
  generalize spanOf s (l.length : Int) i = r at hg ⊢
  by_cases h : r.2 = 0
  · rw [if_pos h, if_pos h]
  · obtain ⟨g0, g1, g2⟩ := hg h
    rw [if_neg h, if_neg h, w64 (x := r.1 + r.2) (by omega) (by omega)]
    simp only [Option.bind_some, List.length_nil, List.nil_append]
    rw [if_pos (by omega), if_pos (by omega), if_pos (by omega), if_pos (by simp; omega)]
theorem impl_BlockAt_v {l : List Int} (hl : l.length ≤ 140737488351232) (s i : Int) : impl_BlockAt.f l s i = some (blockAt l s i) := by
  unfold impl_BlockAt.f blockAt
  rw [impl_SpanOf_v, Option.bind_some]
  have hg := spanOf_range s (l.length : Int) i
  generalize spanOf s (l.length : Int) i = r at hg ⊢
  by_cases h : r.2 = 0
  · rw [if_pos h, if_pos h]
  · obtain ⟨g0, g1, g2⟩ := hg h
    rw [if_neg h, if_neg h, impl_Slice_v hl, Option.bind_some]
    rw [sliceB_yes (by omega) (by omega) (by omega) (by omega)]
theorem laws_big_v (l : List Int) : laws_big.f l = some (decide ((l.length : Int) > 1048576)) := rfl
theorem spec_l1New_l (b : List Int) (hb : b.length ≤ 1048576) (d : Nat) : ∀ (k i : Nat) (h : Int), i ≤ b.length → b.length - i = d → d < k → ∃ h', spec_l1New.l0 k b h (i : Int) = some (b, 0, h') := by
  induction d with
  | zero =>
    intro k i h hi hd hk
    obtain ⟨k, rfl⟩ : ∃ m, k = m + 1 := ⟨k - 1, by omega⟩
    simp only [spec_l1New.l0]
    rw [if_neg (by omega)]
    exact ⟨_, rfl⟩
  | succ d ih =>
    intro k i h hi hd hk
    obtain ⟨k, rfl⟩ : ∃ m, k = m + 1 := ⟨k - 1, by omega⟩
    simp only [spec_l1New.l0]
    rw [if_pos (by omega)]
    by_cases h4 : (i : Int) < 4000
    · rw [if_pos h4, if_pos (by omega), wnat (by omega)]
      exact ih k (i + 1) _ (by omega) (by omega) (by omega)
    · rw [if_neg h4]; exact ⟨_, rfl⟩
theorem spec_l1New_x {k : Nat} {b : List Int} (hb : b.length ≤ 1048576) (hk : b.length < k) : ∃ h', spec_l1New.f k b = some (b, 0, h') := by
  unfold spec_l1New.f
  exact spec_l1New_l b hb b.length k 0 _ (by omega) (by omega) hk
theorem cur_start {b : List Int} (hb : b.length ≤ 1048576) : Cur b 0 := ⟨hb, by omega, by omega⟩
theorem spec_l1Byte_x {b : List Int} {i : Int} (hc : Cur b i) (h : Int) : ∃ r i' h', spec_l1Byte.f b i h = some (r, i', h') ∧ 0 ≤ r ∧ r ≤ 255 ∧ Cur b i' := by
  obtain ⟨h0, h1, h2⟩ := hc
  unfold spec_l1Byte.f
  by_cases hi : i < (b.length : Int)
  · rw [if_pos hi, if_pos h1, w64 (x := i + 1) (by omega) (by omega)]
    exact ⟨_, _, _, rfl, (and_le _).1, (and_le _).2, h0, by omega, by omega⟩
  · rw [if_neg hi]
    exact ⟨_, _, _, rfl, (and_le _).1, (and_le _).2, h0, h1, h2⟩
theorem spec_l1Below_x {b : List Int} {i : Int} (hc : Cur b i) (h : Int) (n : Int) : ∃ r i' h', spec_l1Below.f b i h n = some (r, i', h') ∧ 0 ≤ r ∧ (n ≤ 0 → r = 0) ∧ (0 < n → r < n) ∧ Cur b i' := by
  unfold spec_l1Below.f
  by_cases hn : n ≤ 0
  · rw [if_pos hn]
    exact ⟨_, _, _, rfl, by omega, fun _ => rfl, fun h => by omega, hc⟩
  · rw [if_neg hn]
    by_cases h256 : n ≤ 256
    · rw [if_pos h256]
      obtain ⟨r, i', h', e, r0, r1, hc'⟩ := spec_l1Byte_x hc h
      rw [e, Option.bind_some, if_neg (by omega)]
      refine ⟨_, _, _, rfl, ?_, fun h => by omega, fun _ => ?_, hc'⟩ <;> dsimp only <;> rw [tmod_nn r0]
      · exact Int.emod_nonneg _ (by omega)
      · exact Int.emod_lt_of_pos _ (by omega)
    · rw [if_neg h256]
      obtain ⟨r, i', h', e, r0, r1, hc'⟩ := spec_l1Byte_x hc h
      obtain ⟨s, i'', h'', e', s0, s1, hc''⟩ := spec_l1Byte_x hc' h'
      obtain ⟨t, i3, h3, e3, t0, t1, hc3⟩ := spec_l1Byte_x hc'' h''
      rw [e, Option.bind_some, e', Option.bind_some, e3, Option.bind_some, if_neg (by omega)]
      refine ⟨_, _, _, rfl, ?_, fun h => by omega, fun _ => ?_, hc3⟩ <;> dsimp only <;> rw [w64 (x := r * 65536) (by omega) (by omega), w64 (x := s * 256) (by omega) (by omega), w64 (x := r * 65536 + s * 256) (by omega) (by omega), w64 (x := r * 65536 + s * 256 + t) (by omega) (by omega), tmod_nn (by omega)]
      · exact Int.emod_nonneg _ (by omega)
      · exact Int.emod_lt_of_pos _ (by omega)
theorem spec_l1Int_x {b : List Int} {i : Int} (hc : Cur b i) (h : Int) {l : List Int} (hl : 0 < l.length) : ∃ r i' h', spec_l1Int.f b i h l = some (r, i', h') ∧ r ∈ l ∧ Cur b i' := by
  unfold spec_l1Int.f
  obtain ⟨r, i', h', e, r0, r1, r2, hc'⟩ := spec_l1Below_x hc h (l.length : Int)
  have := r2 (by omega)
  rw [e, Option.bind_some, if_pos r0, if_pos this]
  refine ⟨_, _, _, rfl, ?_, hc'⟩
  obtain ⟨m, rfl⟩ := Int.eq_ofNat_of_zero_le r0
  dsimp only
  rw [rd_at (by omega : m < l.length)]
  exact List.getElem_mem _
theorem spec_l1Once_x {b : List Int} {i : Int} (hc : Cur b i) (h : Int) (n : Int) : ∃ (r : Bool) (i' h' : Int), spec_l1Once.f b i h n = some (r, i', h') ∧ Cur b i' := by
  unfold spec_l1Once.f
  obtain ⟨r, i', h', e, r0, r1, r2, hc'⟩ := spec_l1Below_x hc h n
  rw [e, Option.bind_some]
  exact ⟨_, _, _, rfl, hc'⟩
theorem spec_l3Bytes_l {b : List Int} (d : Nat) : ∀ (k : Nat) (acc : List Int) (i h : Int), Cur b i → Byt acc → acc.length + d ≤ 1000000 → d < k →
    ∃ r i' h', spec_l3Bytes.l0 k acc (d : Int) b i h = some (r, i', h') ∧ Byt r ∧ r.length = acc.length + d ∧ Cur b i' := by
  induction d with
  | zero =>
    intro k acc i h hc hb ha hk
    obtain ⟨k, rfl⟩ : ∃ m, k = m + 1 := ⟨k - 1, by omega⟩
    simp only [spec_l3Bytes.l0]
    rw [if_neg (by omega)]
    exact ⟨_, _, _, rfl, hb, rfl, hc⟩
  | succ d ih =>
    intro k acc i h hc hb ha hk
    obtain ⟨k, rfl⟩ : ∃ m, k = m + 1 := ⟨k - 1, by omega⟩
    simp only [spec_l3Bytes.l0]
    obtain ⟨r, i', h', e, hr, hc'⟩ := spec_l1Int_x hc h (l := [97, 98, 99, 0, 255]) (by decide)
    have hr2 : 0 ≤ r ∧ r ≤ 255 := by
      simp only [List.mem_cons, List.not_mem_nil, or_false] at hr
      omega
    rw [if_pos (by omega), e, Option.bind_some, if_pos (by omega), mod256 hr2.1 hr2.2, w64 (by omega) (by omega), show ((d + 1 : Nat) : Int) - 1 = (d : Int) from by omega]
    obtain ⟨r2, i2, h2, e2, b2, l2, c2⟩ := ih k (acc ++ [r]) i' h' hc' (byt_snoc.2 ⟨hb, hr2⟩) (by simp; omega) (by omega)
    exact ⟨r2, i2, h2, e2, b2, by rw [l2]; simp; omega, c2⟩
theorem spec_l3Bytes_x {k : Nat} {b : List Int} {i : Int} (hc : Cur b i) (h : Int) {n : Int} (h0 : 0 ≤ n) (h1 : n ≤ 1000) (hk : 2000 < k) : ∃ r i' h', spec_l3Bytes.f k b i h n = some (r, i', h') ∧ Byt r ∧ (r.length : Int) ≤ n ∧ Cur b i' := by
  unfold spec_l3Bytes.f
  rw [w64 (by omega) (by omega)]
  obtain ⟨r, i', h', e, r0, r1, r2, hc'⟩ := spec_l1Below_x hc h (n + 1)
  have := r2 (by omega)
  rw [e, Option.bind_some]
  obtain ⟨m, rfl⟩ := Int.eq_ofNat_of_zero_le r0
  obtain ⟨r2, i2, h2, e2, b2, l2, c2⟩ := spec_l3Bytes_l m k [] i' h' hc' byt_nil (by simp; omega) (by omega)
  exact ⟨r2, i2, h2, e2, b2, by rw [l2]; simp; omega, c2⟩
theorem byt_set {l : List Int} (h : Byt l) (i : Nat) {v : Int} (h0 : 0 ≤ v) (h1 : v ≤ 255) : Byt (l.set i v) := by
  intro x hx
  rcases List.mem_or_eq_of_mem_set hx with hx | rfl
  · exact h x hx
  · exact ⟨h0, h1⟩
theorem u8_range (op : BinOp) (x y : Int) : 0 ≤ Go.bits op .u8 x y ∧ Go.bits op .u8 x y ≤ 255 := by
  unfold Go.bits
  simp only [IntKind.wrap_u8]
  omega
theorem spec_l1Bent_x {b : List Int} {i : Int} (hc : Cur b i) (h : Int) {l : List Int} (hb : Byt l) (hl : l.length ≤ 1000000) : ∃ r i' h', spec_l1Bent.f b i h l = some (r, i', h') ∧ Byt r ∧ r.length ≤ l.length + 1 ∧ Cur b i' := by
  unfold spec_l1Bent.f
  simp only [Option.bind_some, List.length_nil, List.nil_append]
  rw [if_pos (by omega)]
  obtain ⟨r, i1, h1, e1, r0, _, r2, c1⟩ := spec_l1Below_x hc h 6
  rw [e1]
  simp only [Option.bind_some]
  by_cases q0 : r = 0
  · rw [if_pos q0]
    by_cases hp : (l.length : Int) > 0
    · rw [if_pos hp]
      obtain ⟨s, i2, h2, e2, s0, _, s2, c2⟩ := spec_l1Below_x c1 h1 (l.length : Int)
      obtain ⟨t, i3, h3, e3, t0, _, t2, c3⟩ := spec_l1Below_x c2 h2 256
      have := s2 (by omega)
      rw [e2]
      simp only [Option.bind_some]
      rw [e3]
      simp only [Option.bind_some]
      rw [if_pos s0, if_pos (by omega)]
      exact ⟨_, _, _, rfl, byt_set hb _ (by omega) (by omega), by simp, c3⟩
    · rw [if_neg hp]; exact ⟨_, _, _, rfl, hb, by omega, c1⟩
  · rw [if_neg q0]
    by_cases q1 : r = 1
    · rw [if_pos q1, w64 (by omega) (by omega)]
      obtain ⟨s, i2, h2, e2, s0, _, s2, c2⟩ := spec_l1Below_x c1 h1 ((l.length : Int) + 1)
      have := s2 (by omega)
      rw [e2]
      simp only [Option.bind_some]
      rw [if_pos s0, if_pos (by omega)]
      exact ⟨_, _, _, rfl, byt_take hb _, by simp; omega, c2⟩
    · rw [if_neg q1]
      by_cases q2 : r = 2
      · rw [if_pos q2]
        obtain ⟨s, i2, h2, e2, hs, c2⟩ := spec_l1Int_x c1 h1 (l := [0, 1, 128, 255]) (by decide)
        rw [e2]
        simp only [Option.bind_some]
        rw [if_pos (by omega)]
        exact ⟨_, _, _, rfl, byt_snoc.2 ⟨hb, by omega, by omega⟩, by simp, c2⟩
      · rw [if_neg q2]
        by_cases q3 : r = 3
        · rw [if_pos q3]
          by_cases hp : (l.length : Int) > 0
          · rw [if_pos hp]
            obtain ⟨s, i2, h2, e2, s0, _, s2, c2⟩ := spec_l1Below_x c1 h1 (l.length : Int)
            obtain ⟨t, i3, h3, e3, t0, _, t2, c3⟩ := spec_l1Below_x c2 h2 8
            have := s2 (by omega)
            rw [e2]
            simp only [Option.bind_some]
            rw [if_pos s0, if_pos (by omega), e3]
            simp only [Option.bind_some]
            rw [if_pos t0]
            exact ⟨_, _, _, rfl, byt_set hb _ (u8_range _ _ _).1 (u8_range _ _ _).2, by simp, c3⟩
          · rw [if_neg hp]; exact ⟨_, _, _, rfl, hb, by omega, c1⟩
        · rw [if_neg q3]; exact ⟨_, _, _, rfl, hb, by omega, c1⟩
theorem laws_at_x {l : List Int} (hb : Byt l) (hl : l.length ≤ 1048576) {i : Int} (h0 : 0 ≤ i) (h1 : i ≤ 1000000) : ∃ r, laws_at.f l i = some r ∧ 0 ≤ r ∧ r ≤ 255 := by
  unfold laws_at.f
  by_cases h : i < (l.length : Int)
  · have := rd_byt hb i
    rw [if_pos h, if_pos h0, w64 (by omega) (by omega)]
    exact ⟨_, rfl, this⟩
  · rw [if_neg h, w64 (x := i * 31) (by omega) (by omega), w64 (x := (l.length : Int) * 7) (by omega) (by omega), w64 (by omega) (by omega), tmod_nn (by omega)]
    exact ⟨_, rfl, by omega, by omega⟩
theorem spec_SumsOf_l (l : List Int) (hb : Byt l) (hl : l.length ≤ 140737488351232) (s : Int) (n : Nat) (hn : blocks s (l.length : Int) = (n : Int)) (d : Nat) : ∀ (k i : Nat) (acc : List S66), i + d = n → d + 30 < k →
    acc = toSs ((List.range i).map fun (j : Nat) => sumOf (blockAt l s (j : Int)).1) → spec_SumsOf.l0 k l s acc (i : Int) = some (toSs ((List.range n).map fun (j : Nat) => sumOf (blockAt l s (j : Int)).1)) := by
  have hbl := blocks_le s (l.length : Int)
  induction d with
  | zero =>
    intro k i acc hi hk hacc
    obtain ⟨k, rfl⟩ : ∃ m, k = m + 1 := ⟨k - 1, by omega⟩
    simp only [spec_SumsOf.l0]
    rw [spec_Blocks_v, Option.bind_some, hn, if_neg (by omega), hacc, show i = n from by omega]
  | succ d ih =>
    intro k i acc hi hk hacc
    obtain ⟨k, rfl⟩ : ∃ m, k = m + 1 := ⟨k - 1, by omega⟩
    simp only [spec_SumsOf.l0]
    have ha : acc.length = i := by rw [hacc, toSs_length]; simp
    rw [spec_Blocks_v, Option.bind_some, hn, if_pos (by omega), spec_BlockAt_v hl, Option.bind_some, spec_SumOf_v (blockAt_byt hb s _) (by omega), Option.bind_some, if_pos (by omega), wnat (by omega)]
    refine ih k (i + 1) _ (by omega) (by omega) ?_
    rw [hacc, List.range_succ, List.map_append]
    simp [toSs, toS]
theorem spec_SumsOf_v {k : Nat} {l : List Int} (hb : Byt l) (hl : l.length ≤ 140737488351232) (s : Int) (hk : 100 < k) : spec_SumsOf.f k l s = some (toSs (sumsOf l s)) := by
  unfold spec_SumsOf.f sumsOf
  have hbl := blocks_le s (l.length : Int)
  obtain ⟨n, hn⟩ := Int.eq_ofNat_of_zero_le hbl.1
  have h := spec_SumsOf_l l hb hl s n hn n k 0 [] (by omega) (by omega) (by simp [toSs])
  rw [hn, Int.toNat_natCast]
  exact h
theorem impl_SumsOf_l (l : List Int) (hb : Byt l) (hl : l.length ≤ 140737488351232) (s : Int) (n : Nat) (hn : blocks s (l.length : Int) = (n : Int)) (d : Nat) : ∀ (k i : Nat) (acc : List S66), i + d = n → d + 30 < k →
    acc = toSs ((List.range i).map fun (j : Nat) => sumOf (blockAt l s (j : Int)).1) → impl_SumsOf.l0 k l s acc (n : Int) (i : Int) = some (toSs ((List.range n).map fun (j : Nat) => sumOf (blockAt l s (j : Int)).1)) := by
  have hbl := blocks_le s (l.length : Int)
  induction d with
  | zero =>
    intro k i acc hi hk hacc
    obtain ⟨k, rfl⟩ : ∃ m, k = m + 1 := ⟨k - 1, by omega⟩
    simp only [impl_SumsOf.l0]
    rw [if_neg (by omega), hacc, show i = n from by omega]
  | succ d ih =>
    intro k i acc hi hk hacc
    obtain ⟨k, rfl⟩ : ∃ m, k = m + 1 := ⟨k - 1, by omega⟩
    simp only [impl_SumsOf.l0]
    have ha : acc.length = i := by rw [hacc, toSs_length]; simp
    rw [if_pos (by omega), impl_BlockAt_v hl, Option.bind_some, impl_SumOf_v (blockAt_byt hb s _) (by omega), Option.bind_some, if_pos (by omega), wnat (by omega)]
    refine ih k (i + 1) _ (by omega) (by omega) ?_
    rw [hacc, List.range_succ, List.map_append]
    simp [toSs, toS]
theorem impl_SumsOf_v {k : Nat} {l : List Int} (hb : Byt l) (hl : l.length ≤ 140737488351232) (s : Int) (hk : 100 < k) : impl_SumsOf.f k l s = some (toSs (sumsOf l s)) := by
  unfold impl_SumsOf.f sumsOf
  have hbl := blocks_le s (l.length : Int)
  obtain ⟨n, hn⟩ := Int.eq_ofNat_of_zero_le hbl.1
  have h := impl_SumsOf_l l hb hl s n hn n k 0 [] (by omega) (by omega) (by simp [toSs])
  rw [impl_Blocks_v, Option.bind_some, hn, Int.toNat_natCast]
  exact h
theorem spec_ManOf_v {k : Nat} (g : Int) {l : List Int} (hb : Byt l) (hl : l.length ≤ 140737488351232) (s : Int) (hk : 100 < k) : spec_ManOf.f k g l s = some ((manOf g l s).1, (manOf g l s).2.1, (manOf g l s).2.2.1, toSs (manOf g l s).2.2.2) := by
  unfold spec_ManOf.f manOf
  rw [spec_l1In_v, Option.bind_some]
  by_cases h : 1 ≤ g ∧ g ≤ 1000000
  · rw [decide_eq_true h, if_pos rfl, spec_SizeOk_v, Option.bind_some]
    by_cases h2 : sizeOk s (l.length : Int) = true
    · rw [if_pos h2, spec_SumsOf_v hb hl s hk, if_pos ⟨h.1, h.2, h2⟩]; rfl
    · rw [if_neg h2, if_neg (fun e => h2 e.2.2)]; rfl
  · rw [decide_eq_false h, if_neg (by decide), if_neg (fun e => h ⟨e.1, e.2.1⟩)]; rfl
theorem impl_ManOf_v {k : Nat} (g : Int) {l : List Int} (hb : Byt l) (hl : l.length ≤ 140737488351232) (s : Int) (hk : 100 < k) : impl_ManOf.f k g l s = some ((manOf g l s).1, (manOf g l s).2.1, (manOf g l s).2.2.1, toSs (manOf g l s).2.2.2) := by
  unfold impl_ManOf.f manOf
  rw [impl_within_v, Option.bind_some]
  by_cases h : 1 ≤ g ∧ g ≤ 1000000
  · rw [decide_eq_true h, if_pos rfl, impl_SizeOk_v, Option.bind_some]
    by_cases h2 : sizeOk s (l.length : Int) = true
    · rw [if_pos h2, impl_SumsOf_v hb hl s hk, if_pos ⟨h.1, h.2, h2⟩]; rfl
    · rw [if_neg h2, if_neg (fun e => h2 e.2.2)]; rfl
  · rw [decide_eq_false h, if_neg (by decide), if_neg (fun e => h ⟨e.1, e.2.1⟩)]; rfl
theorem impl_FullSet_v (n : Int) : impl_FullSet.f n = some (fullSet n) := by
  unfold impl_FullSet.f fullSet
  rw [impl_within_v, Option.bind_some]
  by_cases h : 0 ≤ n ∧ n ≤ 40
  · rw [decide_eq_true h, if_pos rfl, if_pos h.1, if_pos h]
  · rw [decide_eq_false h, if_neg (by decide), if_neg h]
theorem impl_AllParts_v (a b c : Int) (l : List S66) : impl_AllParts.f a b c l = some (fullSet (l.length : Int)) := by
  unfold impl_AllParts.f
  rw [impl_FullSet_v]; rfl
theorem spec_l6SameSums_l (a b : List S66) (hab : a.length = b.length) (hl : a.length ≤ 140737488355328) (d : Nat) : ∀ (k : Nat) (i : Nat), i ≤ a.length → a.length - i = d → d < k →
    spec_l6SameSums.l0 k a b (i : Int) = some (decide (a.drop i = b.drop i)) := by
  induction d with
  | zero =>
    intro k i hi hd hk
    obtain ⟨k, rfl⟩ : ∃ m, k = m + 1 := ⟨k - 1, by omega⟩
    simp only [spec_l6SameSums.l0]
    rw [if_neg (by omega)]
    have e : a.drop i = b.drop i := by rw [List.drop_eq_nil_of_le (by omega), List.drop_eq_nil_of_le (by omega)]
    rw [decide_eq_true e]
  | succ d ih =>
    intro k i hi hd hk
    obtain ⟨k, rfl⟩ : ∃ m, k = m + 1 := ⟨k - 1, by omega⟩
    simp only [spec_l6SameSums.l0]
    rw [if_pos (by omega), if_pos (by omega), if_pos (by omega), wnat (by omega), rd_S (by omega : i < a.length), rd_S (by omega : i < b.length), ih k (i + 1) (by omega) (by omega) (by omega)]
    have e := drop_eq_iffS (a := a) (b := b) (i := i) (by omega) (by omega)
    by_cases h : a[i]'(by omega) = b[i]'(by omega)
    · rw [if_neg (by rw [h]; simp)]; simp only [e, h, true_and]
    · rw [if_pos]
      · simp only [e, h, false_and, decide_false]
      · have h' : ¬ ((a[i]'(by omega)).f0 = (b[i]'(by omega)).f0 ∧ (a[i]'(by omega)).f1 = (b[i]'(by omega)).f1) := fun g => h (S_eq_iff.1 (Prod.ext g.1 g.2))
        by_cases g : (a[i]'(by omega)).f0 = (b[i]'(by omega)).f0
        · have g2 : ¬ (a[i]'(by omega)).f1 = (b[i]'(by omega)).f1 := fun z => h' ⟨g, z⟩
          simp [g, g2]
        · simp [g]
theorem spec_l6SameSums_v {k : Nat} {a b : List S66} (hl : a.length ≤ 140737488355328) (hk : a.length < k) : spec_l6SameSums.f k a b = some (decide (a = b)) := by
  unfold spec_l6SameSums.f
  by_cases h : a.length = b.length
  · rw [if_pos (by omega)]
    exact spec_l6SameSums_l a b h hl a.length k 0 (by omega) (by omega) hk
  · rw [if_neg (by omega)]
    have : a ≠ b := fun e => h (by rw [e])
    simp [this]
theorem impl_Sum_l (a b : List S66) (hab : a.length = b.length) (hl : a.length ≤ 140737488355328) (d : Nat) : ∀ (k : Nat) (i : Nat), i ≤ a.length → a.length - i = d → d < k →
    impl_Sum.l0 k a b (a.length : Int) (i : Int) = some (decide (a.drop i = b.drop i)) := by
  induction d with
  | zero =>
    intro k i hi hd hk
    obtain ⟨k, rfl⟩ : ∃ m, k = m + 1 := ⟨k - 1, by omega⟩
    simp only [impl_Sum.l0]
    rw [if_neg (by omega)]
    have e : a.drop i = b.drop i := by rw [List.drop_eq_nil_of_le (by omega), List.drop_eq_nil_of_le (by omega)]
    rw [decide_eq_true e]
  | succ d ih =>
    intro k i hi hd hk
    obtain ⟨k, rfl⟩ : ∃ m, k = m + 1 := ⟨k - 1, by omega⟩
    simp only [impl_Sum.l0]
    rw [if_pos (by omega), if_pos (by omega), if_pos (by omega), if_pos (by omega), wnat (by omega), rd_S (by omega : i < a.length), rd_S (by omega : i < b.length), ih k (i + 1) (by omega) (by omega) (by omega)]
    have e := drop_eq_iffS (a := a) (b := b) (i := i) (by omega) (by omega)
    by_cases h : a[i]'(by omega) = b[i]'(by omega)
    · rw [if_neg (by rw [h]; simp)]; simp only [e, h, true_and]
    · rw [if_pos]
      · simp only [e, h, false_and, decide_false]
      · have h' : ¬ ((a[i]'(by omega)).f0 = (b[i]'(by omega)).f0 ∧ (a[i]'(by omega)).f1 = (b[i]'(by omega)).f1) := fun g => h (S_eq_iff.1 (Prod.ext g.1 g.2))
        by_cases g : (a[i]'(by omega)).f0 = (b[i]'(by omega)).f0
        · have g2 : ¬ (a[i]'(by omega)).f1 = (b[i]'(by omega)).f1 := fun z => h' ⟨g, z⟩
          simp [g, g2]
        · simp [g]
theorem impl_Sum_v {k : Nat} {a b : List S66} (hl : a.length ≤ 140737488355328) (hk : a.length < k) : impl_Sum.f k a b = some (decide (a = b)) := by
  unfold impl_Sum.f
  by_cases h : a.length = b.length
  · rw [if_pos (by omega)]
    exact impl_Sum_l a b h hl a.length k 0 (by omega) (by omega) hk
  · rw [if_neg (by omega)]
    have : a ≠ b := fun e => h (by rw [e])
    simp [this]
theorem laws_sameSums_l (a b : List S66) (hab : a.length = b.length) (hl : a.length ≤ 140737488355328) (d : Nat) : ∀ (k : Nat) (i : Nat), i ≤ a.length → a.length - i = d → d < k →
    laws_sameSums.l0 k a b (i : Int) = some (decide (a.drop i = b.drop i)) := by
  induction d with
  | zero =>
    intro k i hi hd hk
    obtain ⟨k, rfl⟩ : ∃ m, k = m + 1 := ⟨k - 1, by omega⟩
    simp only [laws_sameSums.l0]
    rw [if_neg (by omega)]
    have e : a.drop i = b.drop i := by rw [List.drop_eq_nil_of_le (by omega), List.drop_eq_nil_of_le (by omega)]
    rw [decide_eq_true e]
  | succ d ih =>
    intro k i hi hd hk
    obtain ⟨k, rfl⟩ : ∃ m, k = m + 1 := ⟨k - 1, by omega⟩
    simp only [laws_sameSums.l0]
    rw [if_pos (by omega), if_pos (by omega), if_pos (by omega), wnat (by omega), rd_S (by omega : i < a.length), rd_S (by omega : i < b.length), ih k (i + 1) (by omega) (by omega) (by omega)]
    have e := drop_eq_iffS (a := a) (b := b) (i := i) (by omega) (by omega)
    by_cases h : a[i]'(by omega) = b[i]'(by omega)
    · rw [if_neg (by rw [h]; simp)]; simp only [e, h, true_and]
    · rw [if_pos]
      · simp only [e, h, false_and, decide_false]
      · have h' : ¬ ((a[i]'(by omega)).f0 = (b[i]'(by omega)).f0 ∧ (a[i]'(by omega)).f1 = (b[i]'(by omega)).f1) := fun g => h (S_eq_iff.1 (Prod.ext g.1 g.2))
        by_cases g : (a[i]'(by omega)).f0 = (b[i]'(by omega)).f0
        · have g2 : ¬ (a[i]'(by omega)).f1 = (b[i]'(by omega)).f1 := fun z => h' ⟨g, z⟩
          simp [g, g2]
        · simp [g]
theorem laws_sameSums_v {k : Nat} {a b : List S66} (hl : a.length ≤ 140737488355328) (hk : a.length < k) : laws_sameSums.f k a b = some (decide (a = b)) := by
  unfold laws_sameSums.f
  by_cases h : a.length = b.length
  · rw [if_pos (by omega)]
    exact laws_sameSums_l a b h hl a.length k 0 (by omega) (by omega) hk
  · rw [if_neg (by omega)]
    have : a ≠ b := fun e => h (by rw [e])
    simp [this]
theorem spec_Tells_v {k : Nat} (a b c : Int) (l : List S66) {m : List Int} (hb : Byt m) (hl : m.length ≤ 140737488351232) (hk : 100 < k) : spec_Tells.f k a b c l m = some (decide ((m.length : Int) = c ∧ toSs (sumsOf m b) = l)) := by
  unfold spec_Tells.f
  by_cases h : (m.length : Int) = c
  · have hs : (toSs (sumsOf m b)).length ≤ 40 := by
      have := sumsOf_length m b
      have := blocks_le b (m.length : Int)
      rw [toSs_length]; omega
    rw [if_pos h, spec_SumsOf_v hb hl b hk, Option.bind_some, spec_l6SameSums_v (by omega) (by omega), Option.bind_some]
    simp [h]
  · rw [if_neg h]; simp [h]
theorem impl_Tells_v {k : Nat} (a b c : Int) (l : List S66) {m : List Int} (hb : Byt m) (hl : m.length ≤ 140737488351232) (hk : 100 < k) : impl_Tells.f k a b c l m = some (decide ((m.length : Int) = c ∧ toSs (sumsOf m b) = l)) := by
  unfold impl_Tells.f
  by_cases h : (m.length : Int) = c
  · have hs : (toSs (sumsOf m b)).length ≤ 40 := by
      have := sumsOf_length m b
      have := blocks_le b (m.length : Int)
      rw [toSs_length]; omega
    rw [if_pos h, impl_SumsOf_v hb hl b hk, Option.bind_some, impl_Sum_v (by omega) (by omega), Option.bind_some]
    simp [h]
  · rw [if_neg h]; simp [h]
theorem bytesOfS_sum {s : Int} (h : (bytesOfS s).2 = true) : sumS (bytesOfS s).1 = s ∧ Byt (bytesOfS s).1 := by
  unfold bytesOfS at h ⊢
  by_cases c0 : s < 1
  · rw [if_pos c0] at h; simp at h
  rw [if_neg c0] at h ⊢
  by_cases c1 : s < 2
  · rw [if_pos c1]; exact ⟨by simp [sumS]; omega, byt_nil⟩
  rw [if_neg c1] at h ⊢
  by_cases c2 : s < 256
  · rw [if_pos c2] at h; simp at h
  rw [if_neg c2] at h ⊢
  by_cases c3 : s < 512
  · rw [if_pos c3]; exact ⟨sumS_dg 1 s (by omega) (by omega), dg_byt 1 s⟩
  rw [if_neg c3] at h ⊢
  by_cases c4 : s < 65536
  · rw [if_pos c4] at h; simp at h
  rw [if_neg c4] at h ⊢
  by_cases c5 : s < 131072
  · rw [if_pos c5]; exact ⟨sumS_dg 2 s (by omega) (by omega), dg_byt 2 s⟩
  rw [if_neg c5] at h ⊢
  by_cases c6 : s < 16777216
  · rw [if_pos c6] at h; simp at h
  rw [if_neg c6] at h ⊢
  by_cases c7 : s < 33554432
  · rw [if_pos c7]; exact ⟨sumS_dg 3 s (by omega) (by omega), dg_byt 3 s⟩
  rw [if_neg c7] at h ⊢
  by_cases c8 : s < 4294967296
  · rw [if_pos c8] at h; simp at h
  rw [if_neg c8] at h ⊢
  by_cases c9 : s < 8589934592
  · rw [if_pos c9]; exact ⟨sumS_dg 4 s (by omega) (by omega), dg_byt 4 s⟩
  rw [if_neg c9] at h ⊢
  by_cases d0 : s < 1099511627776
  · rw [if_pos d0] at h; simp at h
  rw [if_neg d0] at h ⊢
  by_cases d1 : s < 2199023255552
  · rw [if_pos d1]; exact ⟨sumS_dg 5 s (by omega) (by omega), dg_byt 5 s⟩
  rw [if_neg d1] at h ⊢
  by_cases d2 : s < 281474976710656
  · rw [if_pos d2] at h; simp at h
  rw [if_neg d2] at h ⊢
  by_cases d3 : s < 562949953421312
  · rw [if_pos d3]; exact ⟨sumS_dg 6 s (by omega) (by omega), dg_byt 6 s⟩
  rw [if_neg d3] at h; simp at h
def sumOkAt (size len : Int) (i : Nat) (x : S66) : Prop :=
  (bytesOfS x.f1).2 = true ∧ ((bytesOfS x.f1).1.length : Int) = (spanOf size len (i : Int)).2 ∧ weakOf (bytesOfS x.f1).1 = x.f0
instance (size len : Int) (i : Nat) (x : S66) : Decidable (sumOkAt size len i x) := by unfold sumOkAt; exact inferInstance
def sumsOk (size len : Int) : Nat → List S66 → Bool
  | _, [] => true
  | i, x :: r => if sumOkAt size len i x then sumsOk size len (i + 1) r else false
def manOk (a b c : Int) (l : List S66) : Bool :=
  if a = 0 then decide (b = 0 ∧ c = 0 ∧ l = [])
  else if 1 ≤ a ∧ a ≤ 1000000 ∧ sizeOk b c = true ∧ (l.length : Int) = blocks b c then sumsOk b c 0 l else false
theorem impl_ManOk_l (a b c : Int) (l : List S66) (hl : l.length ≤ 140737488355328) (d : Nat) : ∀ (k : Nat) (i : Nat), i ≤ l.length → l.length - i = d → d + 30 < k →
    impl_ManOk.l0 k l (l.length : Int) (i : Int) a b c l = some (sumsOk b c i (l.drop i)) := by
  induction d with
  | zero =>
    intro k i hi hd hk
    obtain ⟨k, rfl⟩ : ∃ m, k = m + 1 := ⟨k - 1, by omega⟩
    simp only [impl_ManOk.l0]
    rw [if_neg (by omega), List.drop_eq_nil_of_le (by omega)]; rfl
  | succ d ih =>
    intro k i hi hd hk
    obtain ⟨k, rfl⟩ : ∃ m, k = m + 1 := ⟨k - 1, by omega⟩
    simp only [impl_ManOk.l0]
    rw [if_pos (by omega), if_pos (by omega), if_pos (by omega), rd_S (by omega : i < l.length), impl_BytesOf_v _ (by omega), Option.bind_some, impl_SpanOf_v, Option.bind_some, List.drop_eq_getElem_cons (by omega : i < l.length), sumsOk, wnat (by omega), ih k (i + 1) (by omega) (by omega) (by omega)]
    generalize l[i]'(by omega) = x
    by_cases h1 : (bytesOfS x.f1).2 = true
    · obtain ⟨e1, hby⟩ := bytesOfS_sum h1
      have hlen := bytesOfS_length x.f1
      by_cases h2 : ((bytesOfS x.f1).1.length : Int) = (spanOf b c (i : Int)).2
      · rw [if_pos h1, if_pos h2, impl_WeakOf_v hby (by omega) (by omega), Option.bind_some]
        by_cases h3 : weakOf (bytesOfS x.f1).1 = x.f0
        · rw [if_pos h3, if_pos (show sumOkAt b c i x from ⟨h1, h2, h3⟩)]
        · rw [if_neg h3, if_neg (fun g : sumOkAt b c i x => h3 g.2.2)]
      · rw [if_pos h1, if_neg h2, if_neg (fun g : sumOkAt b c i x => h2 g.2.1)]
    · rw [if_neg h1, if_neg (fun g : sumOkAt b c i x => h1 g.1)]
theorem impl_isZeroMan_v (a b c : Int) (l : List S66) : impl_isZeroMan.f a b c l = some (decide (a = 0 ∧ b = 0 ∧ c = 0 ∧ l = [])) := by
  unfold impl_isZeroMan.f
  by_cases h0 : a = 0
  · by_cases h1 : b = 0
    · by_cases h2 : c = 0
      · cases l with
        | nil => simp [h0, h1, h2]
        | cons x r => simp [h0, h1, h2]; omega
      · simp [h1, h2]
    · simp [h1]
  · simp [h0]
theorem impl_ManOk_v {k : Nat} (a b c : Int) {l : List S66} (hl : l.length ≤ 140737488355328) (hk : l.length + 40 < k) : impl_ManOk.f k a b c l = some (manOk a b c l) := by
  obtain ⟨k, rfl⟩ : ∃ m, k = m + 1 := ⟨k - 1, by omega⟩
  unfold impl_ManOk.f manOk
  have h0 := impl_ManOk_l a b c l hl l.length k 0 (by omega) (by omega) (by omega)
  simp only [List.drop_zero, show ((0 : Nat) : Int) = 0 from rfl] at h0
  simp only [impl_isZeroMan_v, impl_within_v, impl_SizeOk_v, impl_Blocks_v, Option.bind_some, impl_ManOk.j0]
  by_cases hz : a = 0
  · rw [if_pos hz]
    by_cases h1 : b = 0 ∧ c = 0 ∧ l = []
    · simp [hz, h1]
    · have : ¬ (1 ≤ a ∧ a ≤ 1000000) := by omega
      simp [hz, h1]
  · rw [if_neg hz]
    have hz' : ¬ (a = 0 ∧ b = 0 ∧ c = 0 ∧ l = []) := fun g => hz g.1
    rw [decide_eq_false hz', if_neg (by decide)]
    by_cases h1 : 1 ≤ a ∧ a ≤ 1000000
    · by_cases h2 : sizeOk b c = true
      · by_cases h3 : (l.length : Int) = blocks b c
        · simp [h1, h2, h3]
          rw [← h3]; exact h0
        · simp [h1, h2, h3]
      · simp [h1, h2]
    · rw [decide_eq_false h1, if_neg (by decide : ¬ false = true), if_pos trivial, if_neg (fun g => h1 ⟨g.1, g.2.1⟩)]
def putSums (acc : List Int) : List S66 → List Int
  | [] => acc
  | x :: r => putSums (acc ++ vr 8 x.f1) r
theorem putSums_length (l : List S66) : ∀ acc, (putSums acc l).length ≤ acc.length + 9 * l.length := by
  induction l with
  | nil => intro acc; simp [putSums]
  | cons x r ih =>
    intro acc
    rw [putSums]
    have h1 := ih (acc ++ vr 8 x.f1)
    have h2 := vr_length 8 x.f1
    simp only [List.length_append, List.length_cons] at h1 ⊢
    omega
def putMan (out : List Int) (a b c : Int) (l : List S66) : List Int := if manOk a b c l = true then putSums (putVar (putVar (putVar out a) b) c) l else out
theorem bytesOfS_range {s : Int} (h : (bytesOfS s).2 = true) : 0 ≤ s ∧ s < 9223372036854775808 := by
  obtain ⟨h1, h2⟩ := bytesOfS_sum h
  have h3 := sumS_small h2 (bytesOfS_length s)
  omega
theorem sumsOk_range (b c : Int) (l : List S66) : ∀ i, sumsOk b c i l = true → ∀ x ∈ l, 0 ≤ x.f1 ∧ x.f1 < 9223372036854775808 := by
  induction l with
  | nil => intro i _ x hx; simp at hx
  | cons y r ih =>
    intro i h x hx
    rw [sumsOk] at h
    by_cases hy : sumOkAt b c i y
    · rw [if_pos hy] at h
      rcases List.mem_cons.1 hx with rfl | hx
      · exact bytesOfS_range hy.1
      · exact ih (i + 1) h x hx
    · rw [if_neg hy] at h; simp at h
theorem manOk_in {a b c : Int} {l : List S66} (h : manOk a b c l = true) : l.length ≤ 40 ∧ ∀ x ∈ l, 0 ≤ x.f1 ∧ x.f1 < 9223372036854775808 := by
  unfold manOk at h
  by_cases h0 : a = 0
  · rw [if_pos h0] at h
    obtain ⟨_, _, rfl⟩ := of_decide_eq_true h
    exact ⟨by simp, fun x hx => by simp at hx⟩
  · rw [if_neg h0] at h
    by_cases h1 : 1 ≤ a ∧ a ≤ 1000000 ∧ sizeOk b c = true ∧ (l.length : Int) = blocks b c
    · rw [if_pos h1] at h
      have := blocks_le b c
      exact ⟨by omega, sumsOk_range b c l 0 h⟩
    · rw [if_neg h1] at h; simp at h
theorem putMan_length (out : List Int) (a b c : Int) (l : List S66) : (putMan out a b c l).length ≤ out.length + 500 := by
  unfold putMan
  by_cases h : manOk a b c l = true
  · rw [if_pos h]
    have h1 := (manOk_in h).1
    have h2 := putSums_length l (putVar (putVar (putVar out a) b) c)
    have h3 := putVar_length (putVar (putVar out a) b) c
    have h4 := putVar_length (putVar out a) b
    have h5 := putVar_length out a
    omega
  · rw [if_neg h]; omega
theorem impl_PutMan_l (m : List S66) (hm : m.length ≤ 1000000000000) (hx : ∀ x ∈ m, 0 ≤ x.f1 ∧ x.f1 < 9223372036854775808) (d : Nat) : ∀ (k : Nat) (out : List Int) (i : Nat), i ≤ m.length → m.length - i = d → d + 30 < k → out.length + 9 * d ≤ 140737488350000 →
    impl_PutMan.l0 k out m (m.length : Int) (i : Int) = some (putSums out (m.drop i)) := by
  induction d with
  | zero =>
    intro k out i hi hd hk ho
    obtain ⟨k, rfl⟩ : ∃ m, k = m + 1 := ⟨k - 1, by omega⟩
    simp only [impl_PutMan.l0]
    rw [if_neg (by omega), List.drop_eq_nil_of_le (by omega)]; rfl
  | succ d ih =>
    intro k out i hi hd hk ho
    obtain ⟨k, rfl⟩ : ∃ m, k = m + 1 := ⟨k - 1, by omega⟩
    have hlt : i < m.length := by omega
    have hr := hx _ (List.getElem_mem hlt)
    have hv := vr_length 8 (m[i]).f1
    simp only [impl_PutMan.l0]
    rw [if_pos (by omega), if_pos (by omega), if_pos (by omega), rd_S hlt, impl_appendVar_v (by omega) hr.1 hr.2 (by omega), Option.bind_some, List.drop_eq_getElem_cons hlt, putSums, wnat (by omega)]
    exact ih k _ (i + 1) (by omega) (by omega) (by omega) (by rw [List.length_append]; omega)
theorem impl_PutMan_v {k : Nat} {out : List Int} (ho : out.length ≤ 1000000000000) (a b c : Int) {l : List S66} (hl : l.length ≤ 1000000000000) (hk : l.length + 100 < k) : impl_PutMan.f k out a b c l = some (putMan out a b c l) := by
  unfold impl_PutMan.f putMan
  rw [impl_ManOk_v a b c (by omega) (by omega), Option.bind_some]
  by_cases h : manOk a b c l = true
  · obtain ⟨h1, h2⟩ := manOk_in h
    have h3 := putVar_length (putVar (putVar out a) b) c
    have h4 := putVar_length (putVar out a) b
    have h5 := putVar_length out a
    rw [if_pos h, if_pos h, impl_PutVar_v (by omega) a (by omega), Option.bind_some, impl_PutVar_v (by omega) b (by omega), Option.bind_some, impl_PutVar_v (by omega) c (by omega), Option.bind_some]
    exact impl_PutMan_l l hl h2 l.length k _ 0 (by omega) (by omega) (by omega) (by omega)
  · rw [if_neg h, if_neg h, impl_cloned_v (by omega)]; rfl
abbrev GM := Int × Int × Int × List S66 × Int × Bool
def noMan : GM := (0, 0, 0, [], 0, false)
def finMan (g s n : Int) : Option (List S66 × Int) → GM
  | none => noMan
  | some (m, p) => if manOk g s n m = true then (g, s, n, m, p, true) else noMan
def getSumsOk (l : List Int) : Nat → Int → List S66 → Option (List S66 × Int)
  | 0, p, acc => some (acc, p)
  | d + 1, p, acc => if (rdv l p 8 0 0).2.2 = true ∧ (bytesOfS (rdv l p 8 0 0).1).2 = true then getSumsOk l d (rdv l p 8 0 0).2.1 (acc ++ [⟨(sumOf (bytesOfS (rdv l p 8 0 0).1).1).1, (rdv l p 8 0 0).1⟩]) else none
theorem getVar_at {l : List Int} (hb : Byt l) (hl : l.length ≤ 140737488351232) (a : Int) : 0 ≤ (getVar l a).2.1 ∧ (getVar l a).2.1 ≤ (l.length : Int) := by
  by_cases h : (getVar l a).2.2 = true
  · have := getVar_range hb hl a h; omega
  · unfold getVar at h ⊢
    by_cases hc : (rdv l a 6 0 0).2.2 = true ∧ (rdv l a 6 0 0).1 ≤ 1000000000000
    · rw [if_pos hc] at h; exact absurd hc.1 h
    · rw [if_neg hc]; exact ⟨by simp, by simp⟩
def getMan (l : List Int) (a : Int) : GM :=
  if (getVar l a).2.2 = true ∧ (getVar l (getVar l a).2.1).2.2 = true ∧ (getVar l (getVar l (getVar l a).2.1).2.1).2.2 = true then
    finMan (getVar l a).1 (getVar l (getVar l a).2.1).1 (getVar l (getVar l (getVar l a).2.1).2.1).1
      (getSumsOk l (blocks (getVar l (getVar l a).2.1).1 (getVar l (getVar l (getVar l a).2.1).2.1).1).toNat (getVar l (getVar l (getVar l a).2.1).2.1).2.1 [])
  else noMan
theorem blocks_zero : blocks 0 0 = 0 := by unfold blocks sizeOk; simp
theorem impl_readVars_v {k : Nat} {l : List Int} (hb : Byt l) (hl : l.length ≤ 140737488351232) {a : Int} (ha0 : -9223372036854775808 ≤ a) (ha1 : a ≤ 9223372036854775807) (hk : 100 < k) :
    impl_readVars.f k l a 3 = some (if (getVar l a).2.2 = true ∧ (getVar l (getVar l a).2.1).2.2 = true ∧ (getVar l (getVar l (getVar l a).2.1).2.1).2.2 = true then
      ([(getVar l a).1, (getVar l (getVar l a).2.1).1, (getVar l (getVar l (getVar l a).2.1).2.1).1], (getVar l (getVar l (getVar l a).2.1).2.1).2.1, true) else ([], 0, false)) := by
  have h1 := getVar_at hb hl a
  have h2 := getVar_at hb hl (getVar l a).2.1
  obtain ⟨k, rfl⟩ : ∃ m, k = m + 4 := ⟨k - 4, by omega⟩
  unfold impl_readVars.f
  simp only [impl_readVars.l0]
  rw [impl_GetVar_v hb hl ha0 ha1 (by omega), Option.bind_some, impl_GetVar_v hb hl (by omega) (by omega) (by omega), Option.bind_some, impl_GetVar_v hb hl (by omega) (by omega) (by omega), Option.bind_some]
  generalize getVar l a = v1 at *
  generalize getVar l v1.2.1 = v2 at *
  generalize getVar l v2.2.1 = v3 at *
  rw [show wrap64 ((0 : Int) + 1) = 1 from w64 (by omega) (by omega), show wrap64 ((1 : Int) + 1) = 2 from w64 (by omega) (by omega), show wrap64 ((2 : Int) + 1) = 3 from w64 (by omega) (by omega)]
  by_cases c1 : v1.2.2 = true
  · by_cases c2 : v2.2.2 = true
    · by_cases c3 : v3.2.2 = true
      · simp [c1, c2, c3]
      · simp [c1, c2, c3]
    · simp [c1, c2]
  · simp [c1]
theorem impl_GetMan_l {l : List Int} (hb : Byt l) (hl : l.length ≤ 140737488351232) (g s n B : Int) (hB : 0 ≤ B ∧ B ≤ 40) (d : Nat) : ∀ (k i : Nat) (p : Int) (acc : List S66), (i : Int) + (d : Int) = B → acc.length = i → 0 ≤ p → p ≤ (l.length : Int) → d + 200 < k →
    impl_GetMan.l0 k l p B (i : Int) g s n acc = some (finMan g s n (getSumsOk l d p acc)) := by
  induction d with
  | zero =>
    intro k i p acc hi ha h0 h1 hk
    obtain ⟨k, rfl⟩ : ∃ m, k = m + 1 := ⟨k - 1, by omega⟩
    simp only [impl_GetMan.l0]
    rw [if_neg (by omega), impl_ManOk_v g s n (by omega) (by omega), Option.bind_some]
    simp only [getSumsOk, finMan, noMan]
    split <;> rfl
  | succ d ih =>
    intro k i p acc hi ha h0 h1 hk
    obtain ⟨k, rfl⟩ : ∃ m, k = m + 1 := ⟨k - 1, by omega⟩
    simp only [impl_GetMan.l0]
    have h8 := impl_readVar_v (k := k) hb hl (a := p) (by omega) (by omega) (by omega : 8 ≤ 8) (by omega)
    rw [show ((8 : Nat) : Int) = 8 from rfl] at h8
    rw [if_pos (by omega), h8, Option.bind_some, impl_BytesOf_v _ (by omega), Option.bind_some, getSumsOk]
    by_cases hr : (rdv l p 8 0 0).2.2 = true
    · have hq := rdv_range hb p 8 0 0 (by omega) hr
      by_cases hs : (bytesOfS (rdv l p 8 0 0).1).2 = true
      · obtain ⟨e1, e2⟩ := bytesOfS_sum hs
        have e3 : (sumOf (bytesOfS (rdv l p 8 0 0).1).1).2 = (rdv l p 8 0 0).1 := by unfold sumOf; rw [if_pos (bytesOfS_length _)]; exact e1
        rw [if_pos hr, if_pos hs, if_pos ⟨hr, hs⟩, impl_SumOf_v e2 (by omega), Option.bind_some, if_pos (by omega), wnat (by omega), e3]
        exact ih k (i + 1) _ _ (by omega) (by simp [ha]) (by omega) (by omega) (by omega)
      · rw [if_pos hr, if_neg hs, if_neg (fun e => hs e.2)]; rfl
    · rw [if_neg hr, if_neg (fun e => hr e.1)]; rfl
theorem impl_GetMan_v {k : Nat} {l : List Int} (hb : Byt l) (hl : l.length ≤ 140737488351232) {a : Int} (ha0 : -9223372036854775808 ≤ a) (ha1 : a ≤ 9223372036854775807) (hk : 400 < k) : impl_GetMan.f k l a = some (getMan l a) := by
  have h3 := getVar_at hb hl (getVar l (getVar l a).2.1).2.1
  unfold impl_GetMan.f getMan
  rw [impl_readVars_v hb hl ha0 ha1 (by omega), Option.bind_some]
  generalize getVar l a = v1 at *
  generalize getVar l v1.2.1 = v2 at *
  generalize getVar l v2.2.1 = v3 at *
  by_cases hc : v1.2.2 = true ∧ v2.2.2 = true ∧ v3.2.2 = true
  · rw [if_pos hc, if_pos hc]
    have hB := blocks_le v2.1 v3.1
    have h := impl_GetMan_l hb hl v1.1 v2.1 v3.1 (blocks v2.1 v3.1) hB (blocks v2.1 v3.1).toNat k 0 v3.2.1 [] (by omega) rfl h3.1 h3.2 (by omega)
    rw [show ((0 : Nat) : Int) = 0 from rfl] at h
    have r0 : rd [v1.1, v2.1, v3.1] 0 = v1.1 := rfl
    have r1 : rd [v1.1, v2.1, v3.1] 1 = v2.1 := rfl
    have r2 : rd [v1.1, v2.1, v3.1] 2 = v3.1 := rfl
    dsimp only
    rw [if_pos rfl, if_pos (by simp), if_pos (by simp), if_pos (by simp), r0, r1, r2, impl_Blocks_v, Option.bind_some, h]
  · rw [if_neg hc, if_neg hc]; simp [noMan]
theorem spec_l6Image_x {k : Nat} {b : List Int} {i : Int} (hc : Cur b i) (h : Int) (hk : 2000 < k) : ∃ r i' h', spec_l6Image.f k b i h = some (r, i', h') ∧ Byt r ∧ r.length ≤ 16 ∧ Cur b i' := by
  unfold spec_l6Image.f
  obtain ⟨r, i', h', e, rb, rl, c⟩ := spec_l3Bytes_x (k := k) hc h (by omega : (0 : Int) ≤ 16) (by omega) hk
  rw [e, Option.bind_some]
  exact ⟨_, _, _, rfl, rb, by first | omega | (dsimp only; omega), c⟩
theorem vr_byt (f : Nat) : ∀ n : Int, 0 ≤ n → n < 128 ^ (f + 1) → Byt (vr f n) := by
  induction f with
  | zero =>
    intro n h0 h1 x hx
    simp only [vr, List.mem_singleton] at hx
    subst hx
    exact ⟨h0, by have : (128 : Int) ^ (0 + 1) = 128 := by decide
                  omega⟩
  | succ f ih =>
    intro n h0 h1 x hx
    rw [vr] at hx
    rw [Int.pow_succ] at h1
    by_cases h : n < 128
    · rw [if_pos h, List.mem_singleton] at hx
      subst hx; exact ⟨h0, by omega⟩
    · rw [if_neg h] at hx
      rcases List.mem_cons.1 hx with rfl | hx
      · exact ⟨by omega, by omega⟩
      · exact ih (n / 128) (by omega) (by omega) x hx
theorem putVar_byt {l : List Int} (h : Byt l) (n : Int) : Byt (putVar l n) := by
  unfold putVar
  by_cases hn : 0 ≤ n ∧ n ≤ 1000000000000
  · rw [if_pos hn]; exact byt_append h (vr_byt 8 n hn.1 (by omega))
  · rw [if_neg hn]; exact h
theorem rd_drop {l : List Int} {a : Nat} {x : Int} {r : List Int} (h : l.drop a = x :: r) : a < l.length ∧ rd l (a : Int) = x ∧ l.drop (a + 1) = r := by
  have hlt : a < l.length := by
    rcases Nat.lt_or_ge a l.length with h' | h'
    · exact h'
    · rw [List.drop_eq_nil_of_le h'] at h; simp at h
  have e := List.drop_eq_getElem_cons hlt
  rw [h] at e
  have e1 := List.cons.inj e
  exact ⟨hlt, by rw [rd_at hlt, ← e1.1], e1.2.symm⟩
theorem split_mul (r q P : Int) : r * P + q * (P * 128) = (r + 128 * q) * P := by
  rw [Int.add_mul, Int.mul_comm P 128, ← Int.mul_assoc, Int.mul_comm q 128]
theorem rdv_vr (l : List Int) (a : Nat) (f : Nat) : ∀ (d j : Nat) (n acc : Int) (rest : List Int), l.drop (a + j) = vr f n ++ rest → 0 ≤ n → n < 128 ^ d → n < 128 ^ (f + 1) → (j = 0 ∨ 0 < n) →
    0 < d → rdv l (a : Int) d j acc = (acc + n * 128 ^ j, (a : Int) + (j : Int) + ((vr f n).length : Int), true) := by
  induction f with
  | zero =>
    intro d j n acc rest h h0 h1 h2 hj hd
    obtain ⟨d, rfl⟩ : ∃ m, d = m + 1 := ⟨d - 1, by omega⟩
    have h3 : (128 : Int) ^ (0 + 1) = 128 := by decide
    obtain ⟨g1, g2, g3⟩ := rd_drop (show l.drop (a + j) = n :: rest from h)
    rw [show ((a + j : Nat) : Int) = (a : Int) + (j : Int) from by omega] at g2
    rw [rdv, if_pos ⟨by omega, by omega⟩, g2, if_pos (by omega), decide_eq_true hj]; rfl
  | succ f ih =>
    intro d j n acc rest h h0 h1 h2 hj hd
    obtain ⟨d, rfl⟩ : ∃ m, d = m + 1 := ⟨d - 1, by omega⟩
    by_cases hn : n < 128
    · have hv : vr (f + 1) n = [n] := by rw [vr, if_pos hn]
      rw [hv] at h ⊢
      obtain ⟨g1, g2, g3⟩ := rd_drop (show l.drop (a + j) = n :: rest from h)
      rw [show ((a + j : Nat) : Int) = (a : Int) + (j : Int) from by omega] at g2
      rw [rdv, if_pos ⟨by omega, by omega⟩, g2, if_pos (by omega), decide_eq_true hj]; rfl
    · have hv : vr (f + 1) n = (n % 128 + 128) :: vr f (n / 128) := by rw [vr, if_neg hn]
      rw [hv] at h ⊢
      obtain ⟨g1, g2, g3⟩ := rd_drop (show l.drop (a + j) = (n % 128 + 128) :: (vr f (n / 128) ++ rest) from h)
      rw [show ((a + j : Nat) : Int) = (a : Int) + (j : Int) from by omega] at g2
      rw [rdv, if_pos ⟨by omega, by omega⟩, g2, if_neg (by omega)]
      rw [Int.pow_succ] at h1 h2
      have hd' : 0 < d := by
        rcases Nat.eq_zero_or_pos d with e | e
        · subst e; simp at h1; omega
        · exact e
      rw [ih d (j + 1) (n / 128) _ rest (by rw [← g3]; rfl) (by omega) (by omega) (by omega) (Or.inr (by omega)) hd']
      have e1 : n % 128 + 128 - 128 = n % 128 := by omega
      have e2 := split_mul (n % 128) (n / 128) (128 ^ j)
      have e3 : n % 128 + 128 * (n / 128) = n := by omega
      rw [e3] at e2
      rw [e1, Int.pow_succ, Int.add_assoc, e2, List.length_cons]
      congr 2
      push_cast
      omega
theorem getVar_vr (b : List Int) (n : Int) (h0 : 0 ≤ n) (h1 : n ≤ 1000000000000) (rest : List Int) : getVar (b ++ vr 8 n ++ rest) (b.length : Int) = (n, (b.length : Int) + ((vr 8 n).length : Int), true) := by
  have hd : (b ++ vr 8 n ++ rest).drop (b.length + 0) = vr 8 n ++ rest := by rw [Nat.add_zero, List.append_assoc, List.drop_left]
  have h := rdv_vr (b ++ vr 8 n ++ rest) b.length 8 6 0 n 0 rest hd h0 (by omega) (by omega) (Or.inl rfl) (by omega)
  have e : (0 : Int) + n * 128 ^ 0 = n := by simp
  rw [e] at h
  unfold getVar
  rw [h, if_pos ⟨rfl, h1⟩]
  simp
theorem sumsOf_get {l : List Int} {s : Int} {i : Nat} (h : (i : Int) < blocks s (l.length : Int)) : (sumsOf l s)[i]? = some (sumOf (blockAt l s (i : Int)).1) := by
  unfold sumsOf
  rw [List.getElem?_map, List.getElem?_range (by omega)]; rfl
theorem spec_l4Size_x {b : List Int} {i : Int} (hc : Cur b i) (h : Int) : ∃ r i' h', spec_l4Size.f b i h = some (r, i', h') ∧ Cur b i' := by
  unfold spec_l4Size.f
  obtain ⟨o, i1, h1, e1, c1⟩ := spec_l1Once_x hc h 8
  rw [e1, Option.bind_some]
  cases o with
  | true =>
    obtain ⟨r, i2, h2, e2, _, c2⟩ := spec_l1Int_x c1 h1 (l := [0, 1, 7, (-2)]) (by decide)
    simp only [if_true, e2, Option.bind_some]
    exact ⟨_, _, _, rfl, c2⟩
  | false =>
    obtain ⟨r, i2, h2, e2, _, _, _, c2⟩ := spec_l1Below_x c1 h1 5
    simp only [Bool.false_eq_true, if_false, e2, Option.bind_some]
    exact ⟨_, _, _, rfl, c2⟩
theorem block_get {l : List Int} {s : Int} (hs : sizeOk s (l.length : Int) = true) (j : Nat) (hj : j < l.length) (i : Nat) (hi : (i : Int) = (j : Int) / s) :
    (i : Int) < blocks s (l.length : Int) ∧ (blockAt l s (i : Int)).1.length ≤ 6 ∧ (blockAt l s (i : Int)).1[j - ((i : Int) * s).toNat]? = l[j]? := by
  obtain ⟨g0, g1, g2, g3⟩ := sizeOk_iff.1 hs
  have hb : blocks s (l.length : Int) = ((l.length : Int) + s - 1) / s := by unfold blocks; rw [if_pos hs]
  have hA : 0 ≤ (i : Int) * s ∧ (i : Int) * s ≤ j ∧ (j : Int) < (i : Int) * s + s ∧ (i : Int) ≤ ((l.length : Int) + s - 1) / s - 1 := by
    rcases size_cases g0 g1 with rfl | rfl | rfl | rfl | rfl <;> refine ⟨by omega, by omega, by omega, by omega⟩
  obtain ⟨a0, a1, a2, a3⟩ := hA
  have hsp : spanOf s (l.length : Int) (i : Int) = ((i : Int) * s, mn s ((l.length : Int) - (i : Int) * s)) := by unfold spanOf; rw [if_pos ⟨by omega, by omega⟩]
  generalize (i : Int) * s = A at *
  have hw : 1 ≤ mn s ((l.length : Int) - A) ∧ mn s ((l.length : Int) - A) ≤ 6 ∧ A + mn s ((l.length : Int) - A) ≤ (l.length : Int) ∧ (j : Int) < A + mn s ((l.length : Int) - A) := by
    unfold mn; split <;> omega
  unfold blockAt
  rw [hsp]
  dsimp only
  generalize mn s ((l.length : Int) - A) = w at *
  rw [if_neg (by omega)]
  refine ⟨by omega, by simp; omega, ?_⟩
  dsimp only
  rw [List.getElem?_drop, List.getElem?_take, if_pos (by omega), show A.toNat + (j - A.toNat) = j from by omega]
theorem sumsOf_inj {l m : List Int} (hl : Byt l) (hm : Byt m) {s : Int} (hs : sizeOk s (l.length : Int) = true) (hn : l.length = m.length) (h : sumsOf l s = sumsOf m s) : l = m := by
  obtain ⟨g0, g1, _, _⟩ := sizeOk_iff.1 hs
  refine ext_all rfl hn.symm (fun j hj => ?_)
  obtain ⟨i, hi⟩ : ∃ i : Nat, (i : Int) = (j : Int) / s := ⟨((j : Int) / s).toNat, by
    have : 0 ≤ (j : Int) / s := Int.ediv_nonneg (by omega) (by omega)
    omega⟩
  obtain ⟨x1, x2, x3⟩ := block_get hs j hj i hi
  obtain ⟨y1, y2, y3⟩ := block_get (l := m) (by rw [← hn]; exact hs) j (by omega) i hi
  have e1 := sumsOf_get x1
  rw [h, sumsOf_get y1] at e1
  have e2 := Option.some.inj e1
  unfold sumOf at e2
  rw [if_pos x2, if_pos y2] at e2
  have e3 := sumS_inj (blockAt_byt hm s _) (blockAt_byt hl s _) (congrArg Prod.snd e2)
  rw [← x3, ← y3, e3]
theorem bytesOfS_sumS {q : List Int} (hq : Byt q) (hl : q.length ≤ 6) : bytesOfS (sumS q) = (q, true) := by
  have hb := sumS_bd q hq
  have hd := dg_sumS q hq
  have hn : q.length = 0 ∨ q.length = 1 ∨ q.length = 2 ∨ q.length = 3 ∨ q.length = 4 ∨ q.length = 5 ∨ q.length = 6 := by omega
  generalize sumS q = s at *
  unfold bytesOfS
  rcases hn with h | h | h | h | h | h | h <;> rw [h] at hb hd
  · have : q = [] := List.eq_nil_of_length_eq_zero h
    rw [if_neg (by omega), if_pos (by omega), this]
  · rw [if_neg (by omega), if_neg (by omega), if_neg (by omega), if_pos (by omega), hd]
  · rw [if_neg (by omega), if_neg (by omega), if_neg (by omega), if_neg (by omega), if_neg (by omega), if_pos (by omega), hd]
  · rw [if_neg (by omega), if_neg (by omega), if_neg (by omega), if_neg (by omega), if_neg (by omega), if_neg (by omega), if_neg (by omega), if_pos (by omega), hd]
  · rw [if_neg (by omega), if_neg (by omega), if_neg (by omega), if_neg (by omega), if_neg (by omega), if_neg (by omega), if_neg (by omega), if_neg (by omega), if_neg (by omega), if_pos (by omega), hd]
  · rw [if_neg (by omega), if_neg (by omega), if_neg (by omega), if_neg (by omega), if_neg (by omega), if_neg (by omega), if_neg (by omega), if_neg (by omega), if_neg (by omega), if_neg (by omega), if_neg (by omega), if_pos (by omega), hd]
  · rw [if_neg (by omega), if_neg (by omega), if_neg (by omega), if_neg (by omega), if_neg (by omega), if_neg (by omega), if_neg (by omega), if_neg (by omega), if_neg (by omega), if_neg (by omega), if_neg (by omega), if_neg (by omega), if_neg (by omega), if_pos (by omega), hd]
theorem block_at {l : List Int} {s : Int} (hs : sizeOk s (l.length : Int) = true) (i : Nat) (hi : (i : Int) < blocks s (l.length : Int)) :
    (spanOf s (l.length : Int) (i : Int)).1 = (i : Int) * s ∧ 0 ≤ (i : Int) * s ∧ (i : Int) * s ≤ (l.length : Int) ∧ (blockAt l s (i : Int)).2 = true ∧ (blockAt l s (i : Int)).1.length ≤ 6 ∧
    (spanOf s (l.length : Int) (i : Int)).2 = ((blockAt l s (i : Int)).1.length : Int) ∧ l.take ((i : Int) * s).toNat ++ (blockAt l s (i : Int)).1 = l.take (((i + 1 : Nat) : Int) * s).toNat := by
  obtain ⟨g0, g1, g2, g3⟩ := sizeOk_iff.1 hs
  obtain ⟨q0, q1, q2, q3, q4, q5, q6⟩ := span_in (s := s) (n := (l.length : Int)) (i := (i : Int)) (by omega) (by omega)
  have hsp : spanOf s (l.length : Int) (i : Int) = ((i : Int) * s, mn s ((l.length : Int) - (i : Int) * s)) := by unfold spanOf; rw [if_pos ⟨by omega, by omega⟩]
  have hm : ((i + 1 : Nat) : Int) * s = (i : Int) * s + s := by push_cast; rw [Int.add_mul]; omega
  rw [hm]
  unfold blockAt
  rw [hsp]
  dsimp only
  generalize (i : Int) * s = A at *
  have hw : 1 ≤ mn s ((l.length : Int) - A) ∧ mn s ((l.length : Int) - A) ≤ s ∧ A + mn s ((l.length : Int) - A) ≤ (l.length : Int) ∧ (mn s ((l.length : Int) - A) = s ∨ A + mn s ((l.length : Int) - A) = (l.length : Int)) := by
    unfold mn; split <;> omega
  generalize mn s ((l.length : Int) - A) = w at *
  rw [if_neg (by omega)]
  dsimp only
  refine ⟨rfl, by omega, by omega, rfl, by simp; omega, by simp; omega, ?_⟩
  have e1 : l.take A.toNat = (l.take (A + w).toNat).take A.toNat := by rw [List.take_take, Nat.min_eq_left (by omega)]
  rw [e1, List.take_append_drop]
  rcases hw.2.2.2 with e | e
  · rw [e]
  · rw [e, Int.toNat_natCast, List.take_length, List.take_of_length_le (by omega)]
def encS : List S66 → List Int
  | [] => []
  | x :: r => vr 8 x.f1 ++ encS r
theorem putSums_eq (l : List S66) : ∀ acc, putSums acc l = acc ++ encS l := by
  induction l with
  | nil => intro acc; simp [putSums, encS]
  | cons x r ih => intro acc; rw [putSums, ih, encS, List.append_assoc]
def fullS (x : S66) : Prop := 0 ≤ x.f1 ∧ x.f1 < 562949953421312 ∧ (bytesOfS x.f1).2 = true ∧ (⟨(sumOf (bytesOfS x.f1).1).1, x.f1⟩ : S66) = x
theorem sumOk_full {b c : Int} {i : Nat} {x : S66} (h : sumOkAt b c i x) : fullS x := by
  obtain ⟨h1, h2, h3⟩ := h
  obtain ⟨e1, hby⟩ := bytesOfS_sum h1
  have hl := bytesOfS_length x.f1
  have hs := sumS_small hby hl
  refine ⟨by omega, by omega, h1, ?_⟩
  have e : (sumOf (bytesOfS x.f1).1).1 = x.f0 := by unfold sumOf; rw [if_pos hl]; exact h3
  rw [e]
theorem sumsOk_full (b c : Int) (l : List S66) : ∀ i, sumsOk b c i l = true → ∀ x ∈ l, fullS x := by
  induction l with
  | nil => intro i _ x hx; simp at hx
  | cons y r ih =>
    intro i h x hx
    rw [sumsOk] at h
    by_cases hy : sumOkAt b c i y
    · rw [if_pos hy] at h
      rcases List.mem_cons.1 hx with rfl | hx
      · exact sumOk_full hy
      · exact ih (i + 1) h x hx
    · rw [if_neg hy] at h; simp at h
theorem manOk_full {a b c : Int} {l : List S66} (h : manOk a b c l = true) : 0 ≤ a ∧ a ≤ 1000000 ∧ 0 ≤ b ∧ b ≤ 6 ∧ 0 ≤ c ∧ c ≤ 240 ∧ (l.length : Int) = blocks b c ∧ ∀ x ∈ l, fullS x := by
  unfold manOk at h
  by_cases h0 : a = 0
  · rw [if_pos h0] at h
    obtain ⟨h1, h2, rfl⟩ := of_decide_eq_true h
    subst h1; subst h2
    exact ⟨by omega, by omega, by omega, by omega, by omega, by omega, by rw [blocks_zero]; rfl, fun x hx => by simp at hx⟩
  · rw [if_neg h0] at h
    by_cases h1 : 1 ≤ a ∧ a ≤ 1000000 ∧ sizeOk b c = true ∧ (l.length : Int) = blocks b c
    · rw [if_pos h1] at h
      obtain ⟨g0, g1, g2, g3⟩ := sizeOk_iff.1 h1.2.2.1
      exact ⟨by omega, by omega, by omega, by omega, by omega, by omega, h1.2.2.2, sumsOk_full b c l 0 h⟩
    · rw [if_neg h1] at h; simp at h
theorem getSumsOk_put (l : List S66) : ∀ (pre rest : List Int) (acc : List S66), (∀ x ∈ l, fullS x) → getSumsOk (putSums pre l ++ rest) l.length (pre.length : Int) acc = some (acc ++ l, ((putSums pre l).length : Int)) := by
  induction l with
  | nil => intro pre rest acc _; simp [getSumsOk, putSums]
  | cons x r ih =>
    intro pre rest acc h
    obtain ⟨h0, h1, h2, h3⟩ := h x (by simp)
    have hd : (putSums (pre ++ vr 8 x.f1) r ++ rest).drop (pre.length + 0) = vr 8 x.f1 ++ (encS r ++ rest) := by
      rw [putSums_eq, Nat.add_zero, List.append_assoc, List.append_assoc, List.drop_left]
    have g := rdv_vr _ pre.length 8 8 0 x.f1 0 (encS r ++ rest) hd h0 (by omega) (by omega) (Or.inl rfl) (by omega)
    have e : (0 : Int) + x.f1 * 128 ^ 0 = x.f1 := by simp
    rw [e] at g
    rw [putSums, List.length_cons, getSumsOk, g, if_pos ⟨rfl, h2⟩]
    dsimp only
    rw [h3, show (pre.length : Int) + ((0 : Nat) : Int) + ((vr 8 x.f1).length : Int) = ((pre ++ vr 8 x.f1).length : Int) from by rw [List.length_append]; omega, ih _ _ _ (fun y hy => h y (by simp [hy]))]
    simp
theorem putVar_in (l : List Int) {n : Int} (h0 : 0 ≤ n) (h1 : n ≤ 1000000000000) : putVar l n = l ++ vr 8 n := by unfold putVar; rw [if_pos ⟨h0, h1⟩]
theorem getMan_put (pre : List Int) {g s n : Int} {l : List S66} (h : manOk g s n l = true) : getMan (putMan pre g s n l) (pre.length : Int) = (g, s, n, l, ((putMan pre g s n l).length : Int), true) := by
  obtain ⟨a0, a1, b0, b1, c0, c1, hl, hf⟩ := manOk_full h
  have e : putMan pre g s n l = putSums (pre ++ vr 8 g ++ vr 8 s ++ vr 8 n) l := by
    unfold putMan; rw [if_pos h, putVar_in _ a0 (by omega), putVar_in _ b0 (by omega), putVar_in _ c0 (by omega)]
  have e1 : putMan pre g s n l = pre ++ vr 8 g ++ (vr 8 s ++ (vr 8 n ++ encS l)) := by rw [e, putSums_eq]; simp only [List.append_assoc]
  have e2 : putMan pre g s n l = (pre ++ vr 8 g) ++ vr 8 s ++ (vr 8 n ++ encS l) := by rw [e, putSums_eq]; simp only [List.append_assoc]
  have e3 : putMan pre g s n l = (pre ++ vr 8 g ++ vr 8 s) ++ vr 8 n ++ encS l := by rw [e, putSums_eq]
  have g1 := getVar_vr pre g a0 (by omega) (vr 8 s ++ (vr 8 n ++ encS l))
  rw [← e1] at g1
  have g2 := getVar_vr (pre ++ vr 8 g) s b0 (by omega) (vr 8 n ++ encS l)
  rw [← e2] at g2
  have g3 := getVar_vr (pre ++ vr 8 g ++ vr 8 s) n c0 (by omega) (encS l)
  rw [← e3] at g3
  have g4 := getSumsOk_put l (pre ++ vr 8 g ++ vr 8 s ++ vr 8 n) [] [] hf
  rw [List.append_nil, ← e] at g4
  unfold getMan
  rw [g1]
  dsimp only
  rw [show (pre.length : Int) + ((vr 8 g).length : Int) = ((pre ++ vr 8 g).length : Int) from by rw [List.length_append]; omega, g2]
  dsimp only
  rw [show ((pre ++ vr 8 g).length : Int) + ((vr 8 s).length : Int) = ((pre ++ vr 8 g ++ vr 8 s).length : Int) from by rw [List.length_append (bs := vr 8 s)]; omega, g3]
  dsimp only
  rw [show ((pre ++ vr 8 g ++ vr 8 s).length : Int) + ((vr 8 n).length : Int) = ((pre ++ vr 8 g ++ vr 8 s ++ vr 8 n).length : Int) from by rw [List.length_append (bs := vr 8 n)]; omega]
  rw [if_pos ⟨rfl, rfl, rfl⟩, ← hl, Int.toNat_natCast, g4]
  simp only [finMan, List.nil_append]
  rw [if_pos h]
theorem putSums_byt (l : List S66) : ∀ acc, Byt acc → (∀ x ∈ l, 0 ≤ x.f1 ∧ x.f1 < 9223372036854775808) → Byt (putSums acc l) := by
  induction l with
  | nil => intro acc h _; exact h
  | cons x r ih =>
    intro acc h hx
    have h0 := hx x (by simp)
    rw [putSums]
    exact ih _ (byt_append h (vr_byt 8 x.f1 h0.1 (by omega))) (fun y hy => hx y (by simp [hy]))
theorem putMan_byt {out : List Int} (h : Byt out) (a b c : Int) (l : List S66) : Byt (putMan out a b c l) := by
  unfold putMan
  by_cases hm : manOk a b c l = true
  · rw [if_pos hm]
    exact putSums_byt l _ (putVar_byt (putVar_byt (putVar_byt h a) b) c) (manOk_in hm).2
  · rw [if_neg hm]; exact h
theorem manOf_len (g : Int) (l : List Int) (s : Int) : (toSs (manOf g l s).2.2.2).length ≤ 40 := by
  rw [toSs_length]
  unfold manOf
  have h1 := sumsOf_length l s
  have h2 := blocks_le s (l.length : Int)
  split
  · dsimp only; omega
  · simp
theorem manOf_n (g : Int) (l : List Int) (s : Int) : 0 ≤ (manOf g l s).2.2.1 ∧ (manOf g l s).2.2.1 ≤ (l.length : Int) := by
  unfold manOf
  split
  · dsimp only; omega
  · dsimp only; omega
theorem sumOf_w (l : List Int) : 0 ≤ (sumOf l).1 ∧ (sumOf l).1 ≤ 63000 := by
  have := weakOf_range l
  unfold sumOf
  split
  · exact this
  · dsimp only; omega
theorem manOf_w (g : Int) (l : List Int) (s : Int) : ∀ y ∈ toSs (manOf g l s).2.2.2, 0 ≤ y.f0 ∧ y.f0 ≤ 63000 := by
  intro y hy
  unfold manOf at hy
  split at hy
  · simp only [toSs, sumsOf, List.mem_map] at hy
    obtain ⟨p, ⟨j, _, rfl⟩, rfl⟩ := hy
    exact sumOf_w _
  · simp [toSs] at hy
theorem sumsOk_of {b : List Int} (hb : Byt b) {s : Int} (hs : sizeOk s (b.length : Int) = true) (d : Nat) : ∀ i : Nat, (i : Int) + (d : Int) = blocks s (b.length : Int) → sumsOk s (b.length : Int) i ((toSs (sumsOf b s)).drop i) = true := by
  have hL := sumsOf_length b s
  have hB := blocks_le s (b.length : Int)
  have hT : (toSs (sumsOf b s)).length = (sumsOf b s).length := toSs_length _
  induction d with
  | zero => intro i hi; rw [List.drop_eq_nil_of_le (by omega)]; rfl
  | succ d ih =>
    intro i hi
    have hlt : (i : Int) < blocks s (b.length : Int) := by omega
    have hln : i < (sumsOf b s).length := by omega
    have hlt2 : i < (toSs (sumsOf b s)).length := by omega
    obtain ⟨p1, p2, p3, p4, p5, p6, p7⟩ := block_at hs i hlt
    have qb := blockAt_byt hb s (i : Int)
    have hget : (toSs (sumsOf b s))[i] = toS (sumOf (blockAt b s (i : Int)).1) := by
      have e := sumsOf_get hlt
      rw [List.getElem?_eq_getElem hln] at e
      simp only [toSs, List.getElem_map]
      rw [Option.some.inj e]
    have e0 : sumOf (blockAt b s (i : Int)).1 = (weakOf (blockAt b s (i : Int)).1, sumS (blockAt b s (i : Int)).1) := by unfold sumOf; rw [if_pos p5]
    rw [List.drop_eq_getElem_cons hlt2, hget, sumsOk, if_pos, ih (i + 1) (by omega)]
    unfold sumOkAt
    rw [e0]
    show (bytesOfS (sumS (blockAt b s (i : Int)).1)).2 = true ∧ _ ∧ weakOf (bytesOfS (sumS (blockAt b s (i : Int)).1)).1 = weakOf (blockAt b s (i : Int)).1
    rw [show (toS (weakOf (blockAt b s (i : Int)).1, sumS (blockAt b s (i : Int)).1)).f1 = sumS (blockAt b s (i : Int)).1 from rfl, bytesOfS_sumS qb p5]
    exact ⟨rfl, p6.symm, rfl⟩
theorem manOk_of {b : List Int} (hb : Byt b) {s : Int} (hs : sizeOk s (b.length : Int) = true) {g : Int} (h0 : 1 ≤ g) (h1 : g ≤ 1000000) : manOk g s (b.length : Int) (toSs (sumsOf b s)) = true := by
  have hL := sumsOf_length b s
  have hB := blocks_le s (b.length : Int)
  have hT : (toSs (sumsOf b s)).length = (sumsOf b s).length := toSs_length _
  unfold manOk
  rw [if_neg (by omega), if_pos ⟨h0, h1, hs, by omega⟩]
  exact sumsOk_of hb hs (blocks s (b.length : Int)).toNat 0 (by omega)
theorem laws_sameMan_v {k : Nat} {a b c a' b' c' : Int} {l l' : List S66} (hl : l.length ≤ 140737488355328) (hk : l.length < k) : laws_sameMan.f k a b c l a' b' c' l' = some (decide ((a, b, c, l) = (a', b', c', l'))) := by
  unfold laws_sameMan.f
  rw [laws_sameSums_v hl hk]
  by_cases h1 : a = a'
  · by_cases h2 : b = b'
    · by_cases h3 : c = c'
      · by_cases h4 : l = l'
        · simp [h1, h2, h3, h4]
        · simp [h1, h2, h3, h4]
      · simp [h1, h2, h3]
    · simp [h1, h2]
  · simp [h1]
theorem spec_DrawImage_x {k : Nat} {b : List Int} (hb : b.length ≤ 1048576) (hk : 1049000 < k) : ∃ x g s, spec_DrawImage.f k b = some (x, g, s) ∧ Byt x ∧ x.length ≤ 16 ∧ 1 ≤ g ∧ g ≤ 9 ∧ 2 ≤ s ∧ s ≤ 6 := by
  unfold spec_DrawImage.f
  obtain ⟨h, e⟩ := spec_l1New_x (k := k) hb (by omega)
  obtain ⟨x, i1, h1, e1, xb, xl, c1⟩ := spec_l6Image_x (k := k) (cur_start hb) h (by omega)
  obtain ⟨r, i2, h2, e2, r0, _, r2, c2⟩ := spec_l1Below_x c1 h1 9
  obtain ⟨t, i3, h3, e3, t0, _, t2, c3⟩ := spec_l1Below_x c2 h2 5
  have := r2 (by omega)
  have := t2 (by omega)
  rw [e, Option.bind_some, e1, Option.bind_some, e2, Option.bind_some, e3, Option.bind_some]
  dsimp only
  rw [w64 (x := 1 + r) (by omega) (by omega), w64 (x := 2 + t) (by omega) (by omega)]
  exact ⟨_, _, _, rfl, xb, xl, by omega, by omega, by omega, by omega⟩
theorem spec_DrawManOf_x {k : Nat} {b : List Int} (hb : b.length ≤ 1048576) (hk : 1049000 < k) : ∃ g x s, spec_DrawManOf.f k b = some (g, x, s) ∧ Byt x ∧ x.length ≤ 16 := by
  unfold spec_DrawManOf.f
  obtain ⟨h, e⟩ := spec_l1New_x (k := k) hb (by omega)
  obtain ⟨g, i1, h1, e1, _, c1⟩ := spec_l1Int_x (cur_start hb) h (l := [1, 2, 0, 1000000, 1000001]) (by decide)
  obtain ⟨x, i2, h2, e2, xb, xl, c2⟩ := spec_l6Image_x (k := k) c1 h1 (by omega)
  obtain ⟨s, i3, h3, e3, c3⟩ := spec_l4Size_x c2 h2
  rw [e, Option.bind_some, e1, Option.bind_some, e2, Option.bind_some, e3, Option.bind_some]
  exact ⟨_, _, _, rfl, xb, xl⟩
theorem spec_l6Draw_x {k : Nat} {b : List Int} {i : Int} (hc : Cur b i) (h : Int) (hk : 2000 < k) : ∃ m0 m1 m2 m3 x i' h', spec_l6Draw.f k b i h = some (m0, m1, m2, m3, x, i', h') ∧ m3.length ≤ 40 ∧ Byt x ∧ x.length ≤ 16 ∧ Cur b i' ∧ 0 ≤ m2 ∧ m2 ≤ 16 ∧ (∀ y ∈ m3, 0 ≤ y.f0 ∧ y.f0 ≤ 63000) := by
  unfold spec_l6Draw.f
  obtain ⟨x, i1, h1, e1, xb, xl, c1⟩ := spec_l6Image_x (k := k) hc h (by omega)
  obtain ⟨r, i2, h2, e2, r0, _, r2, c2⟩ := spec_l1Below_x c1 h1 5
  obtain ⟨t, i3, h3, e3, t0, _, t2, c3⟩ := spec_l1Below_x c2 h2 5
  rw [e1, Option.bind_some, e2, Option.bind_some, e3, Option.bind_some]
  dsimp only
  rw [spec_ManOf_v _ xb (by omega) _ (by omega), Option.bind_some]
  have hn := manOf_n (wrap64 (1 + r)) x (wrap64 (2 + t))
  exact ⟨_, _, _, _, _, _, _, rfl, manOf_len _ _ _, xb, xl, c3, hn.1, by have := hn.2; dsimp only; omega, manOf_w _ _ _⟩
theorem spec_DrawTells_x {k : Nat} {b : List Int} (hb : b.length ≤ 1048576) (hk : 1049000 < k) : ∃ m0 m1 m2 m3 x, spec_DrawTells.f k b = some (m0, m1, m2, m3, x) ∧ m3.length ≤ 40 ∧ Byt x ∧ x.length ≤ 17 := by
  unfold spec_DrawTells.f
  obtain ⟨h, e⟩ := spec_l1New_x (k := k) hb (by omega)
  obtain ⟨m0, m1, m2, m3, x, i1, h1, e1, ml, xb, xl, c1, _⟩ := spec_l6Draw_x (k := k) (cur_start hb) h (by omega)
  obtain ⟨o, i2, h2, e2, c2⟩ := spec_l1Once_x c1 h1 2
  rw [e, Option.bind_some, e1, Option.bind_some, e2, Option.bind_some]
  dsimp only
  by_cases q : o = true
  · rw [if_pos q]; exact ⟨_, _, _, _, _, rfl, ml, xb, by omega⟩
  · obtain ⟨y, i3, h3, e3, yb, yl, c3⟩ := spec_l1Bent_x c2 h2 xb (by omega)
    rw [if_neg q, e3, Option.bind_some]
    exact ⟨_, _, _, _, _, rfl, ml, yb, by first | omega | (dsimp only; omega)⟩
theorem FnMans_l {l : List Int} (hl : Byt l) (hll : l.length ≤ 1048576) {b : List Int} (hb : Byt b) (hbl : b.length ≤ 16) {s : Int} (hs : sizeOk s (b.length : Int) = true) (g : Int) (d : Nat) : ∀ (k i : Nat), i + d = b.length → d + 300 < k →
    laws_FnMans.l0 k l b s (i : Int) g s (b.length : Int) (toSs (sumsOf b s)) = some true := by
  have hL := sumsOf_length b s
  have hT : (toSs (sumsOf b s)).length = (sumsOf b s).length := toSs_length _
  induction d with
  | zero =>
    intro k i hi hk
    obtain ⟨k, rfl⟩ : ∃ m, k = m + 1 := ⟨k - 1, by omega⟩
    simp only [laws_FnMans.l0]
    rw [if_neg (by omega), impl_AllParts_v, Option.bind_some, impl_Blocks_v, Option.bind_some, impl_FullSet_v, Option.bind_some, hT, hL, beq_self_eq_true]
  | succ d ih =>
    intro k i hi hk
    obtain ⟨k, rfl⟩ : ∃ m, k = m + 1 := ⟨k - 1, by omega⟩
    have hlt : i < b.length := by omega
    obtain ⟨r, er, r0, r1⟩ := laws_at_x hl hll (i := (i : Int)) (by omega) (by omega)
    have hx := rd_byt hb (i : Int)
    have hrd := rd_at hlt
    simp only [laws_FnMans.l0, Option.bind_some, List.length_nil, List.nil_append]
    rw [if_pos (by omega), if_pos (by omega), if_pos (by omega), if_pos (by omega), er, Option.bind_some, tmod_nn r0]
    have hv : ((rd b (i : Int) + 1) % 256 + r % 255 % 256) % 256 ≠ rd b (i : Int) := by omega
    have hv0 : 0 ≤ ((rd b (i : Int) + 1) % 256 + r % 255 % 256) % 256 ∧ ((rd b (i : Int) + 1) % 256 + r % 255 % 256) % 256 ≤ 255 := by omega
    generalize ((rd b (i : Int) + 1) % 256 + r % 255 % 256) % 256 = v at *
    have hbs := byt_set hb (i : Int).toNat hv0.1 hv0.2
    have hne : ¬ (((b.set (i : Int).toNat v).length : Int) = (b.length : Int) ∧ toSs (sumsOf (b.set (i : Int).toNat v) s) = toSs (sumsOf b s)) := by
      rintro ⟨_, h2⟩
      have h3 := sumsOf_inj hbs hb (by rw [List.length_set]; exact hs) (by rw [List.length_set]) (toSs_inj h2)
      have h4 := congrArg (fun z : List Int => z[i]?) h3
      simp only [Int.toNat_natCast] at h4
      rw [List.getElem?_set, if_pos rfl, if_pos hlt, List.getElem?_eq_getElem hlt] at h4
      exact hv ((Option.some.inj h4).trans hrd.symm)
    rw [impl_Tells_v _ _ _ _ hbs (by rw [List.length_set]; omega) (by omega), Option.bind_some, decide_eq_false hne, if_neg (by decide), wnat (by omega)]
    exact ih k (i + 1) (by omega) (by omega)
theorem FnMans : laws_FnMans.Pure := by
  intro l hm hr hw
  have hlb : Byt l := fun x hx => wf_u8 (hw x hx)
  refine exists_ge 1050000 _ (fun k hk => ?_)
  unfold laws_FnMans.f
  rw [laws_big_v, Option.bind_some]
  by_cases hbig : (l.length : Int) > 1048576
  · rw [if_pos (decide_eq_true hbig)]
  · rw [if_neg (by simpa using hbig)]
    obtain ⟨b, g, s, e1, bb, bl, g0, g1, s0, s1⟩ := spec_DrawImage_x (k := k) (b := l) (by omega) (by omega)
    obtain ⟨g', c, s', e2, cb, cl⟩ := spec_DrawManOf_x (k := k) (b := l) (by omega) (by omega)
    obtain ⟨t0, t1, t2, t3, d, e3, tl, db, dl⟩ := spec_DrawTells_x (k := k) (b := l) (by omega) (by omega)
    have hs : sizeOk s (b.length : Int) = true := sizeOk_iff.2 ⟨by omega, by omega, by omega, by omega⟩
    have hm1 : manOf g b s = (g, s, (b.length : Int), sumsOf b s) := by unfold manOf; rw [if_pos ⟨by omega, by omega, hs⟩]
    have hok := manOk_of bb hs (g := g) (by omega) (by omega)
    have hL := sumsOf_length b s
    have hB := blocks_le s (b.length : Int)
    have hT : (toSs (sumsOf b s)).length = (sumsOf b s).length := toSs_length _
    have hM := manOf_len g' c s'
    have hp := putMan_length [7] g s (b.length : Int) (toSs (sumsOf b s))
    have hpb : Byt (putMan [7] g s (b.length : Int) (toSs (sumsOf b s))) := putMan_byt (by intro x hx; simp at hx; omega) _ _ _ _
    have hg := getMan_put [7] hok
    have h7 : ([7] : List Int).length = 1 := rfl
    rw [h7] at hp hg
    rw [show ((1 : Nat) : Int) = 1 from rfl] at hg
    rw [e1, Option.bind_some]
    dsimp only
    rw [impl_ManOf_v g bb (by omega) s (by omega), Option.bind_some, hm1]
    dsimp only
    rw [impl_PutMan_v (by simp) g s (b.length : Int) (by omega) (by omega), Option.bind_some, impl_GetMan_v hpb (by omega) (by omega) (by omega) (by omega), Option.bind_some, hg, e2, Option.bind_some, e3, Option.bind_some]
    dsimp only
    rw [impl_ManOf_v g' cb (by omega) s' (by omega), Option.bind_some, spec_ManOf_v g' cb (by omega) s' (by omega), Option.bind_some]
    dsimp only
    rw [laws_sameMan_v (by omega) (by omega), Option.bind_some, if_pos (decide_eq_true rfl), impl_Tells_v _ _ _ _ db (by omega) (by omega), Option.bind_some, spec_Tells_v _ _ _ _ db (by omega) (by omega), Option.bind_some, bne_self_eq_false, if_neg (by decide),
      impl_ManOk_v _ _ _ (by omega) (by omega), Option.bind_some, if_pos hok, if_pos rfl, laws_sameMan_v (by omega) (by omega), Option.bind_some, if_pos (decide_eq_true rfl), Option.bind_some, if_pos rfl, impl_Tells_v _ _ _ _ bb (by omega) (by omega), Option.bind_some, decide_eq_true ⟨rfl, rfl⟩]
    obtain ⟨k, rfl⟩ : ∃ m, k = m + 1 := ⟨k - 1, by omega⟩
    simp only [laws_FnMans.j0, Bool.not_true]
    rw [if_neg (by decide)]
    exact FnMans_l hlb (by omega) bb (by omega) hs g b.length k 0 (by omega) (by omega)
end Go.Proofs.Ytdkgcloempbgpaa.Pure
