/- For all draws: a decoded manifest is valid, and the bytes are its encoding; no condition. -/
import Derived.Test.YtdodnhjglpidlaaPFnMansBentx15
import Derived.Test.YtdodnhjglpidlaaVLib
set_option linter.unusedVariables false
set_option linter.unusedSimpArgs false
namespace Go.Proofs.Ytdodnhjglpidlaa.Pure
open Go.RowKit Go.Proofs.Ytdodnhjglpidlaa.PFnMansBent Go.Proofs.YtdodnhjglpidlaaW.PrintWords Go.Proofs.YtdodnhjglpidlaaW.PrintLast Go.Proofs.YtdodnhjglpidlaaW.PrintMore Go.Proofs.Ytdodnhjglpidlaa.Lib
instance : DecidableEq S56 := fun a b => decidable_of_iff (a.f0 = b.f0 ∧ a.f1 = b.f1) ⟨fun h => by cases a; cases b; simp_all, fun h => by rw [h]; exact ⟨rfl, rfl⟩⟩
def toS (p : Int × Int) : S56 := ⟨p.1, p.2⟩
def toSs (l : List (Int × Int)) : List S56 := l.map toS
theorem toSs_length (l : List (Int × Int)) : (toSs l).length = l.length := by simp [toSs]
theorem rd_S {l : List S56} {i : Nat} (h : i < l.length) : rd_T56 l (i : Int) = l[i] := by
  unfold rd_T56
  rw [Int.toNat_natCast, List.getD_eq_getElem?_getD, List.getElem?_eq_getElem h]; rfl
theorem drop_eq_iffS {a b : List S56} {i : Nat} (ha : i < a.length) (hb : i < b.length) : (a.drop i = b.drop i) ↔ (a[i] = b[i] ∧ a.drop (i + 1) = b.drop (i + 1)) := by
  rw [List.drop_eq_getElem_cons ha, List.drop_eq_getElem_cons hb, List.cons.injEq]
theorem S_eq_iff {a b : S56} : (a.f0, a.f1) = (b.f0, b.f1) ↔ a = b := by cases a; cases b; simp
theorem spec_l1In_v (a b c : Int) : spec_l1In.f a b c = some (decide (b ≤ a ∧ a ≤ c)) := by
  unfold spec_l1In.f
  by_cases h : b ≤ a
  · rw [if_pos h]; simp [h]
  · rw [if_neg h]; simp [h]
theorem impl_within_v (a b c : Int) : impl_within.f a b c = some (decide (b ≤ a ∧ a ≤ c)) := by
  unfold impl_within.f
  by_cases h : b ≤ a
  · rw [if_pos h]; simp [h]
  · rw [if_neg h]; simp [h]
theorem impl_Wrap_v {a m : Int} (h0 : 1 ≤ m) (h1 : m ≤ 1000000000000) : impl_Wrap.f a m = some (a % m) := by
  unfold impl_Wrap.f
  rw [impl_within_v, Option.bind_some, decide_eq_true (by omega), if_pos rfl, if_neg (by omega)]
  have h2 : a.tmod m = a - m * a.tdiv m := by have := Int.mul_tdiv_add_tmod a m; omega
  have h3 : -m < a.tmod m ∧ a.tmod m < m := ⟨by have := Int.lt_tmod_of_pos a (by omega : 0 < m); omega, Int.tmod_lt_of_pos a (by omega)⟩
  rw [w64 (by omega) (by omega), tmod_nn (by omega), Int.add_emod_right, h2, Int.sub_mul_emod_self_left]
theorem impl_weak_v (x y : Int) : impl_weak.f x y = some (x % 251 + 251 * (y % 251)) := by
  unfold impl_weak.f
  rw [impl_Wrap_v (by omega) (by omega), impl_Wrap_v (by omega) (by omega)]
  simp only [Option.bind_some]
  rw [w64 (x := 251 * (y % 251)) (by omega) (by omega), w64 (by omega) (by omega)]
theorem spec_WeakOf_l (l : List Int) (hb : Byt l) (hl : l.length ≤ 140737488351232) (d : Nat) : ∀ (k : Nat) (i : Nat), i ≤ l.length → l.length - i = d → d < k →
    spec_WeakOf.l0 k l (sx (l.take i) % 251) (sy (l.take i) % 251) (i : Int) = some (weakOf l) := by
  induction d with
  | zero =>
    intro k i hi hd hk
    obtain ⟨k, rfl⟩ : ∃ m, k = m + 1 := ⟨k - 1, by omega⟩
    simp only [spec_WeakOf.l0]
    rw [if_neg (by omega), List.take_of_length_le (by omega), w64 (x := 251 * (sy l % 251)) (by omega) (by omega), w64 (by omega) (by omega)]
    rfl
  | succ d ih =>
    intro k i hi hd hk
    obtain ⟨k, rfl⟩ : ∃ m, k = m + 1 := ⟨k - 1, by omega⟩
    simp only [spec_WeakOf.l0]
    have hc := hb l[i] (List.getElem_mem (by omega))
    rw [if_pos (by omega), if_pos (by omega), wnat (by omega), rd_at (by omega : i < l.length), w64 (x := l[i]) (by omega) (by omega), w64 (by omega) (by omega), tmod_nn (by omega), w64 (by omega) (by omega), tmod_nn (by omega)]
    have e : l.take (i + 1) = l.take i ++ [l[i]] := List.take_succ_eq_append_getElem (by omega)
    have := ih k (i + 1) (by omega) (by omega) (by omega)
    rw [e, sx_snoc, sy_snoc] at this
    rw [show (sx (l.take i) % 251 + l[i]) % 251 = (sx (l.take i) + l[i]) % 251 from by omega, show (sy (l.take i) % 251 + (sx (l.take i) + l[i]) % 251) % 251 = (sy (l.take i) + sx (l.take i) + l[i]) % 251 from by omega]
    exact this
theorem spec_WeakOf_v {k : Nat} {l : List Int} (hb : Byt l) (hl : l.length ≤ 140737488351232) (hk : l.length < k) : spec_WeakOf.f k l = some (weakOf l) := by
  unfold spec_WeakOf.f
  exact spec_WeakOf_l l hb hl l.length k 0 (by omega) (by omega) hk
theorem impl_WeakOf_l (l : List Int) (hb : Byt l) (hl : l.length ≤ 140737488351232) (d : Nat) : ∀ (k : Nat) (i : Nat), i ≤ l.length → l.length - i = d → d < k →
    impl_WeakOf.l0 k (sx (l.take i) % 251) (sy (l.take i) % 251) l (l.length : Int) (i : Int) = some (weakOf l) := by
  induction d with
  | zero =>
    intro k i hi hd hk
    obtain ⟨k, rfl⟩ : ∃ m, k = m + 1 := ⟨k - 1, by omega⟩
    simp only [impl_WeakOf.l0]
    rw [if_neg (by omega), impl_weak_v, List.take_of_length_le (by omega)]
    simp only [Option.bind_some, weakOf, Int.emod_emod]
  | succ d ih =>
    intro k i hi hd hk
    obtain ⟨k, rfl⟩ : ∃ m, k = m + 1 := ⟨k - 1, by omega⟩
    simp only [impl_WeakOf.l0]
    have hc := hb l[i] (List.getElem_mem (by omega))
    rw [if_pos (by omega), if_pos (by omega), if_pos (by omega), wnat (by omega), rd_at (by omega : i < l.length), w64 (x := l[i]) (by omega) (by omega), w64 (by omega) (by omega), tmod_nn (by omega), w64 (by omega) (by omega), tmod_nn (by omega)]
    have e : l.take (i + 1) = l.take i ++ [l[i]] := List.take_succ_eq_append_getElem (by omega)
    have := ih k (i + 1) (by omega) (by omega) (by omega)
    rw [e, sx_snoc, sy_snoc] at this
    rw [show (sx (l.take i) % 251 + l[i]) % 251 = (sx (l.take i) + l[i]) % 251 from by omega, show (sy (l.take i) % 251 + (sx (l.take i) + l[i]) % 251) % 251 = (sy (l.take i) + sx (l.take i) + l[i]) % 251 from by omega]
    exact this
theorem impl_WeakOf_v {k : Nat} {l : List Int} (hb : Byt l) (hl : l.length ≤ 140737488351232) (hk : l.length < k) : impl_WeakOf.f k l = some (weakOf l) := by
  unfold impl_WeakOf.f
  exact impl_WeakOf_l l hb hl l.length k 0 (by omega) (by omega) hk
theorem spec_SizeOk_v (s n : Int) : spec_SizeOk.f s n = some (sizeOk s n) := by
  unfold spec_SizeOk.f sizeOk
  rw [spec_l1In_v]
  simp only [Option.bind_some]
  by_cases h : 2 ≤ s ∧ s ≤ 6
  · rw [decide_eq_true h, if_pos rfl, spec_l1In_v, w64 (by omega) (by omega)]
    simp [h]
  · rw [decide_eq_false h, if_neg (by decide)]
    have : ¬ (2 ≤ s ∧ s ≤ 6 ∧ 0 ≤ n ∧ n ≤ s * 40) := fun g => h ⟨g.1, g.2.1⟩
    rw [decide_eq_false this]
theorem impl_SizeOk_v (s n : Int) : impl_SizeOk.f s n = some (sizeOk s n) := by
  unfold impl_SizeOk.f sizeOk
  rw [impl_within_v]
  simp only [Option.bind_some]
  by_cases h : 2 ≤ s ∧ s ≤ 6
  · rw [decide_eq_true h, if_pos rfl, impl_within_v, Int.mul_comm 40 s, w64 (by omega) (by omega)]
    simp [h]
  · rw [decide_eq_false h, if_neg (by decide)]
    have : ¬ (2 ≤ s ∧ s ≤ 6 ∧ 0 ≤ n ∧ n ≤ s * 40) := fun g => h ⟨g.1, g.2.1⟩
    rw [decide_eq_false this]
theorem spec_CeilDiv_v {a b : Int} (h0 : 0 ≤ a) (h1 : a ≤ 1000000000000) (h2 : 1 ≤ b) (h3 : b ≤ 1000000000000) : spec_CeilDiv.f a b = some ((a + b - 1) / b) := by
  unfold spec_CeilDiv.f
  rw [spec_l1In_v, Option.bind_some, decide_eq_true (by omega), if_pos rfl, spec_l1In_v, Option.bind_some, decide_eq_true (by omega), if_pos rfl, if_neg (by omega), w64 (x := a + b) (by omega) (by omega), w64 (x := a + b - 1) (by omega) (by omega), tdiv_nn (by omega)]
  have h4 : 0 ≤ (a + b - 1) / b := Int.ediv_nonneg (by omega) (by omega)
  have h5 : (a + b - 1) / b ≤ a + b - 1 := Int.ediv_le_self _ (by omega)
  rw [w64 (by omega) (by omega)]
theorem impl_CeilDiv_v {a b : Int} (h0 : 0 ≤ a) (h1 : a ≤ 1000000000000) (h2 : 1 ≤ b) (h3 : b ≤ 1000000000000) : impl_CeilDiv.f a b = some ((a + b - 1) / b) := by
  unfold impl_CeilDiv.f
  rw [impl_within_v, Option.bind_some, decide_eq_true (by omega), if_pos rfl, impl_within_v, Option.bind_some, decide_eq_true (by omega), if_pos rfl, if_neg (by omega), w64 (x := a + b) (by omega) (by omega), w64 (x := a + b - 1) (by omega) (by omega), tdiv_nn (by omega)]
  have h4 : 0 ≤ (a + b - 1) / b := Int.ediv_nonneg (by omega) (by omega)
  have h5 : (a + b - 1) / b ≤ a + b - 1 := Int.ediv_le_self _ (by omega)
  rw [w64 (by omega) (by omega)]
theorem spec_Blocks_v (s n : Int) : spec_Blocks.f s n = some (blocks s n) := by
  unfold spec_Blocks.f blocks
  rw [spec_SizeOk_v, Option.bind_some]
  by_cases h : sizeOk s n = true
  · obtain ⟨h0, h1, h2, h3⟩ := sizeOk_iff.1 h
    rw [if_pos h, if_pos h, spec_CeilDiv_v (by omega) (by omega) (by omega) (by omega)]
    rfl
  · rw [if_neg h, if_neg h]
theorem impl_Blocks_v (s n : Int) : impl_Blocks.f s n = some (blocks s n) := by
  unfold impl_Blocks.f blocks
  rw [impl_SizeOk_v, Option.bind_some]
  by_cases h : sizeOk s n = true
  · obtain ⟨h0, h1, h2, h3⟩ := sizeOk_iff.1 h
    rw [if_pos h, if_pos h, impl_CeilDiv_v (by omega) (by omega) (by omega) (by omega)]
    rfl
  · rw [if_neg h, if_neg h]
theorem spec_Least_v (a b : Int) : spec_Least.f a b = some (mn a b) := by
  unfold spec_Least.f mn
  by_cases h : b < a
  · rw [if_pos h, if_pos h]
  · rw [if_neg h, if_neg h]
theorem spec_SpanOf_v (s n i : Int) : spec_SpanOf.f s n i = some (spanOf s n i) := by
  unfold spec_SpanOf.f spanOf
  rw [spec_Blocks_v, Option.bind_some, spec_l1In_v, Option.bind_some]
  have hb := blocks_le s n
  rw [w64 (x := blocks s n - 1) (by omega) (by omega)]
  by_cases h : 0 ≤ i ∧ i ≤ blocks s n - 1
  · obtain ⟨h0, h1, h2, h3, h4, h5, h6⟩ := span_in h.1 h.2
    rw [decide_eq_true h, if_pos rfl, if_pos h, spec_Least_v, Option.bind_some, w64 (x := i * s) (by omega) (by omega), w64 (by omega) (by omega)]
  · rw [decide_eq_false h, if_neg (by decide), if_neg h]
theorem impl_SpanOf_v (s n i : Int) : impl_SpanOf.f s n i = some (spanOf s n i) := by
  unfold impl_SpanOf.f spanOf
  rw [impl_Blocks_v, Option.bind_some, impl_within_v, Option.bind_some]
  have hb := blocks_le s n
  rw [w64 (x := blocks s n - 1) (by omega) (by omega)]
  by_cases h : 0 ≤ i ∧ i ≤ blocks s n - 1
  · obtain ⟨h0, h1, h2, h3, h4, h5, h6⟩ := span_in h.1 h.2
    rw [decide_eq_true h, if_pos rfl, if_pos h, w64 (x := i * s) (by omega) (by omega), w64 (by omega) (by omega)]
  · rw [decide_eq_false h, if_neg (by decide), if_neg h]
theorem spec_GetVar_l (l : List Int) (hb : Byt l) (hl : l.length ≤ 140737488351232) (a : Int) (ha0 : -9223372036854775808 ≤ a) (ha1 : a ≤ 9223372036854775807) (d : Nat) : ∀ (k j : Nat) (n : Int), j + d = 6 → 0 ≤ n → n < 128 ^ j → 2 * d + 1 < k →
    spec_GetVar.l0 k l a n (j : Int) = some (if (rdv l a d j n).2.2 = true ∧ (rdv l a d j n).1 ≤ 1000000000000 then rdv l a d j n else (0, 0, false)) := by
  induction d with
  | zero =>
    intro k j n hj hn0 hn hk
    obtain ⟨k, rfl⟩ : ∃ m, k = m + 1 := ⟨k - 1, by omega⟩
    simp only [spec_GetVar.l0]
    rw [if_neg (by omega)]
    simp [rdv]
  | succ d ih =>
    intro k j n hj hn0 hn hk
    obtain ⟨k, rfl⟩ : ∃ m, k = m + 2 := ⟨k - 2, by omega⟩
    simp only [spec_GetVar.l0]
    rw [if_pos (by omega)]
    by_cases hin : 0 ≤ a ∧ a + (j : Int) < (l.length : Int)
    · have hx := rd_byt hb (a + (j : Int))
      rw [if_neg (by omega), w64 (x := (l.length : Int) - j) (by omega) (by omega), decide_eq_false (by omega)]
      simp only [spec_GetVar.j1]
      have hs := var_step (j := j) n (rd l (a + (j : Int)) % 128) hn0 hn (by omega) (by omega)
      rw [if_neg (by decide), w64 (x := a + (j : Int)) (by omega) (by omega), if_pos (by omega), if_pos (by omega), w64 (x := 7 * (j : Int)) (by omega) (by omega), if_pos (by omega), w64 (x := rd l (a + (j : Int))) (by omega) (by omega),
        and127 hx.1 hx.2, shl7 (by omega) (by omega) (by omega), orVar (by omega) hn0 hn (by omega) (by omega)]
      rw [rdv, if_pos hin]
      by_cases h128 : rd l (a + (j : Int)) < 128
      · rw [if_pos h128, if_pos h128]
        have e : rd l (a + (j : Int)) % 128 = rd l (a + (j : Int)) := by omega
        rw [e] at hs ⊢
        rw [w64 (x := a + (j : Int) + 1) (by omega) (by omega)]
        by_cases h0 : rd l (a + (j : Int)) = 0
        · rw [if_pos h0]
          by_cases hj0 : (j : Int) > 0
          · rw [if_pos hj0, if_neg]
            rintro ⟨h, _⟩
            have := of_decide_eq_true h
            omega
          · rw [if_neg hj0]
            have hd : decide (j = 0 ∨ 0 < rd l (a + (j : Int))) = true := decide_eq_true (Or.inl (by omega))
            simp only [hd, true_and]
            by_cases hg : n + rd l (a + (j : Int)) * 128 ^ j > 1000000000000
            · rw [if_pos hg, if_neg (by omega)]
            · rw [if_neg hg, if_pos (by omega)]
        · rw [if_neg h0]
          have hd : decide (j = 0 ∨ 0 < rd l (a + (j : Int))) = true := decide_eq_true (Or.inr (by omega))
          simp only [hd, true_and]
          by_cases hg : n + rd l (a + (j : Int)) * 128 ^ j > 1000000000000
          · rw [if_pos hg, if_neg (by omega)]
          · rw [if_neg hg, if_pos (by omega)]
      · rw [if_neg h128, if_neg h128]
        have e : rd l (a + (j : Int)) % 128 = rd l (a + (j : Int)) - 128 := by omega
        rw [e] at hs ⊢
        rw [w64 (x := (j : Int) + 1) (by omega) (by omega)]
        exact ih k (j + 1) _ (by omega) hs.1 hs.2 (by omega)
    · rw [rdv, if_neg hin]
      have hr : (if ((0, 0, false) : Int × Int × Bool).2.2 = true ∧ ((0, 0, false) : Int × Int × Bool).1 ≤ 1000000000000 then ((0, 0, false) : Int × Int × Bool) else (0, 0, false)) = (0, 0, false) := by simp
      rw [hr]
      by_cases hneg : a < 0
      · rw [if_pos hneg]; simp [spec_GetVar.j1]
      · rw [if_neg hneg, w64 (x := (l.length : Int) - j) (by omega) (by omega), decide_eq_true (by omega)]; simp [spec_GetVar.j1]
theorem spec_GetVar_v {k : Nat} {l : List Int} (hb : Byt l) (hl : l.length ≤ 140737488351232) {a : Int} (ha0 : -9223372036854775808 ≤ a) (ha1 : a ≤ 9223372036854775807) (hk : 20 < k) : spec_GetVar.f k l a = some (getVar l a) := by
  unfold spec_GetVar.f
  exact spec_GetVar_l l hb hl a ha0 ha1 6 k 0 0 (by omega) (by omega) (by decide) (by omega)
theorem impl_readVar_l (l : List Int) (hb : Byt l) (hl : l.length ≤ 140737488351232) (a : Int) (ha0 : -9223372036854775808 ≤ a) (ha1 : a ≤ 9223372036854775807) (most : Nat) (hm : most ≤ 8) (d : Nat) : ∀ (k j : Nat) (n : Int), j + d = most → 0 ≤ n → n < 128 ^ j → d < k →
    impl_readVar.l0 k l a n (most : Int) (j : Int) = some (rdv l a d j n) := by
  induction d with
  | zero =>
    intro k j n hj hn0 hn hk
    obtain ⟨k, rfl⟩ : ∃ m, k = m + 1 := ⟨k - 1, by omega⟩
    simp only [impl_readVar.l0]
    rw [if_neg (by omega)]
    simp [rdv]
  | succ d ih =>
    intro k j n hj hn0 hn hk
    obtain ⟨k, rfl⟩ : ∃ m, k = m + 1 := ⟨k - 1, by omega⟩
    simp only [impl_readVar.l0]
    rw [if_pos (by omega), impl_within_v, Option.bind_some, w64 (x := (l.length : Int) - 1) (by omega) (by omega), w64 (x := (l.length : Int) - 1 - j) (by omega) (by omega)]
    by_cases hin : 0 ≤ a ∧ a + (j : Int) < (l.length : Int)
    · have hx := rd_byt hb (a + (j : Int))
      have hs := var_step (j := j) n (rd l (a + (j : Int)) % 128) hn0 hn (by omega) (by omega)
      rw [if_pos (decide_eq_true (by omega)), w64 (x := a + (j : Int)) (by omega) (by omega), if_pos (by omega), if_pos (by omega), w64 (x := 7 * (j : Int)) (by omega) (by omega), if_pos (by omega), w64 (x := rd l (a + (j : Int))) (by omega) (by omega),
        and127 hx.1 hx.2, shl7 (by omega) (by omega) (by omega), orVar (by omega) hn0 hn (by omega) (by omega)]
      rw [rdv, if_pos hin]
      by_cases h128 : rd l (a + (j : Int)) < 128
      · rw [if_pos h128, if_pos h128]
        have e : rd l (a + (j : Int)) % 128 = rd l (a + (j : Int)) := by omega
        rw [e, w64 (x := a + (j : Int) + 1) (by omega) (by omega)]
        by_cases hj0 : (j : Int) = 0
        · rw [if_pos hj0]
          have hd : decide (j = 0 ∨ 0 < rd l (a + (j : Int))) = true := decide_eq_true (Or.inl (by omega))
          rw [hd]
        · rw [if_neg hj0]
          have hj1 : ¬ j = 0 := by omega
          simp [hj1]
      · rw [if_neg h128, if_neg h128]
        have e : rd l (a + (j : Int)) % 128 = rd l (a + (j : Int)) - 128 := by omega
        rw [e] at hs ⊢
        rw [w64 (x := (j : Int) + 1) (by omega) (by omega)]
        exact ih k (j + 1) _ (by omega) hs.1 hs.2 (by omega)
    · rw [if_neg (by simp; omega), rdv, if_neg hin]
theorem impl_readVar_v {k : Nat} {l : List Int} (hb : Byt l) (hl : l.length ≤ 140737488351232) {a : Int} (ha0 : -9223372036854775808 ≤ a) (ha1 : a ≤ 9223372036854775807) {most : Nat} (hm : most ≤ 8) (hk : 20 < k) : impl_readVar.f k l a (most : Int) = some (rdv l a most 0 0) := by
  unfold impl_readVar.f
  exact impl_readVar_l l hb hl a ha0 ha1 most hm most k 0 0 (by omega) (by omega) (by decide) (by omega)
theorem impl_GetVar_v {k : Nat} {l : List Int} (hb : Byt l) (hl : l.length ≤ 140737488351232) {a : Int} (ha0 : -9223372036854775808 ≤ a) (ha1 : a ≤ 9223372036854775807) (hk : 20 < k) : impl_GetVar.f k l a = some (getVar l a) := by
  unfold impl_GetVar.f getVar
  have h := impl_readVar_v hb hl ha0 ha1 (by omega : 6 ≤ 8) hk
  rw [show ((6 : Nat) : Int) = 6 from rfl] at h
  rw [h, Option.bind_some]
  generalize rdv l a 6 0 0 = r
  by_cases h1 : r.2.2 = true
  · rw [if_pos h1]
    by_cases h2 : r.1 > 1000000000000
    · rw [if_pos h2, if_neg (by omega)]
    · rw [if_neg h2, if_pos ⟨h1, by omega⟩, ← h1]
  · rw [if_neg h1, if_neg (fun h => h1 h.1)]
theorem impl_cloned_v {l : List Int} (hl : l.length ≤ 140737488351232) : impl_cloned.f l = some l := by
  unfold impl_cloned.f
  rw [if_pos (by omega), if_pos (by omega)]
  simp only [List.replicate_zero, Option.bind_some, List.nil_append, List.length_nil]
  rw [if_pos (by omega)]
theorem spec_BytesOf_ok (n : Nat) : ∀ (k : Nat) (s : Int) (out : List Int), n ≤ 6 → 256 ^ n ≤ s → s < 2 * 256 ^ n → out.length ≤ 100 - n → n < k → spec_BytesOf.l0 k s out = some (dg n s ++ out, true) := by
  induction n with
  | zero =>
    intro k s out hn h0 h1 ho hk
    obtain ⟨k, rfl⟩ : ∃ m, k = m + 1 := ⟨k - 1, by omega⟩
    simp only [spec_BytesOf.l0]
    rw [if_neg (by omega)]; rfl
  | succ n ih =>
    intro k s out hn h0 h1 ho hk
    obtain ⟨k, rfl⟩ : ∃ m, k = m + 1 := ⟨k - 1, by omega⟩
    have hp := pow256_pos n
    have hq : (256 : Int) ^ n ≤ 256 ^ 5 := by
      rcases (by omega : n = 0 ∨ n = 1 ∨ n = 2 ∨ n = 3 ∨ n = 4 ∨ n = 5) with rfl | rfl | rfl | rfl | rfl | rfl <;> decide
    rw [Int.pow_succ] at h0 h1
    simp only [spec_BytesOf.l0]
    rw [if_pos (by omega), if_neg (by omega), Option.bind_some, if_pos (by simp; omega), and255 (by omega) (by omega), Int.emod_emod, ih k _ _ (by omega) (by omega) (by omega) (by simp; omega) (by omega)]
    simp [dg]
theorem spec_BytesOf_no (n : Nat) : ∀ (k : Nat) (s : Int) (out : List Int), n ≤ 6 → 2 * 256 ^ n ≤ s → s < 256 ^ (n + 1) → out.length ≤ 100 - n → n < k → spec_BytesOf.l0 k s out = some ([], false) := by
  induction n with
  | zero =>
    intro k s out hn h0 h1 ho hk
    obtain ⟨k, rfl⟩ : ∃ m, k = m + 1 := ⟨k - 1, by omega⟩
    simp only [spec_BytesOf.l0]
    rw [if_pos (by omega), if_pos (by omega)]
  | succ n ih =>
    intro k s out hn h0 h1 ho hk
    obtain ⟨k, rfl⟩ : ∃ m, k = m + 1 := ⟨k - 1, by omega⟩
    have hp := pow256_pos n
    have hq : (256 : Int) ^ n ≤ 256 ^ 5 := by
      rcases (by omega : n = 0 ∨ n = 1 ∨ n = 2 ∨ n = 3 ∨ n = 4 ∨ n = 5) with rfl | rfl | rfl | rfl | rfl | rfl <;> decide
    rw [Int.pow_succ] at h0 h1
    rw [Int.pow_succ] at h1
    simp only [spec_BytesOf.l0]
    rw [if_pos (by omega), if_neg (by omega), Option.bind_some, if_pos (by simp; omega), and255 (by omega) (by omega), Int.emod_emod, ih k _ _ (by omega) (by omega) (by rw [Int.pow_succ]; omega) (by simp; omega) (by omega)]
theorem spec_BytesOf_v {k : Nat} (s : Int) (hk : 20 < k) : spec_BytesOf.f k s = some (bytesOfS s) := by
  unfold spec_BytesOf.f bytesOfS
  simp only [spec_l1In_v, Option.bind_some]
  by_cases h0 : 1 ≤ s ∧ s ≤ 562949953421311
  · have ok := fun (n : Nat) (h : n ≤ 6) h1 h2 => spec_BytesOf_ok n k s [] h h1 h2 (by simp) (by omega)
    have no := fun (n : Nat) (h : n ≤ 6) h1 h2 => spec_BytesOf_no n k s [] h h1 h2 (by simp) (by omega)
    rw [decide_eq_true h0, if_pos rfl, if_neg (by omega)]
    by_cases c1 : s < 2
    · rw [if_pos c1, ok 0 (by omega) (by omega) (by omega)]; rfl
    rw [if_neg c1]
    by_cases c2 : s < 256
    · rw [if_pos c2, no 0 (by omega) (by omega) (by omega)]
    rw [if_neg c2]
    by_cases c3 : s < 512
    · rw [if_pos c3, ok 1 (by omega) (by omega) (by omega), List.append_nil]
    rw [if_neg c3]
    by_cases c4 : s < 65536
    · rw [if_pos c4, no 1 (by omega) (by omega) (by omega)]
    rw [if_neg c4]
    by_cases c5 : s < 131072
    · rw [if_pos c5, ok 2 (by omega) (by omega) (by omega), List.append_nil]
    rw [if_neg c5]
    by_cases c6 : s < 16777216
    · rw [if_pos c6, no 2 (by omega) (by omega) (by omega)]
    rw [if_neg c6]
    by_cases c7 : s < 33554432
    · rw [if_pos c7, ok 3 (by omega) (by omega) (by omega), List.append_nil]
    rw [if_neg c7]
    by_cases c8 : s < 4294967296
    · rw [if_pos c8, no 3 (by omega) (by omega) (by omega)]
    rw [if_neg c8]
    by_cases c9 : s < 8589934592
    · rw [if_pos c9, ok 4 (by omega) (by omega) (by omega), List.append_nil]
    rw [if_neg c9]
    by_cases c10 : s < 1099511627776
    · rw [if_pos c10, no 4 (by omega) (by omega) (by omega)]
    rw [if_neg c10]
    by_cases c11 : s < 2199023255552
    · rw [if_pos c11, ok 5 (by omega) (by omega) (by omega), List.append_nil]
    rw [if_neg c11]
    by_cases c12 : s < 281474976710656
    · rw [if_pos c12, no 5 (by omega) (by omega) (by omega)]
    rw [if_neg c12, if_pos (by omega), ok 6 (by omega) (by omega) (by omega), List.append_nil]
  · rw [decide_eq_false h0, if_neg (by decide)]
    by_cases h1 : s < 1
    · rw [if_pos h1]
    · simp only [if_neg h1]
      repeat rw [if_neg (by omega)]
theorem impl_BytesOf_in (s : Int) (n : Nat) (hn : n ≤ 6) (d : Nat) : ∀ (k : Nat) (out : List Int) (i : Nat), out.length = n → i ≤ n → n - i = d → d < k → (∀ j, j < i → out[j]? = (dg n s)[j]?) →
    impl_BytesOf.l1 k s (n : Int) out (n : Int) (i : Int) = some (dg n s, true) := by
  induction d with
  | zero =>
    intro k out i ho hi hd hk hj
    obtain ⟨k, rfl⟩ : ∃ m, k = m + 1 := ⟨k - 1, by omega⟩
    simp only [impl_BytesOf.l1]
    rw [if_neg (by omega), ext_all ho (dg_length n s) (fun j h => hj j (by omega))]
  | succ d ih =>
    intro k out i ho hi hd hk hj
    obtain ⟨k, rfl⟩ : ∃ m, k = m + 1 := ⟨k - 1, by omega⟩
    simp only [impl_BytesOf.l1]
    rw [if_pos (by omega), w64 (x := (n : Int) - 1) (by omega) (by omega), w64 (x := (n : Int) - 1 - i) (by omega) (by omega), w64 (x := 8 * ((n : Int) - 1 - i)) (by omega) (by omega), if_pos (by omega), if_pos (by omega), if_pos (by omega), wnat (by omega),
      show (n : Int) - 1 - i = ((n - 1 - i : Nat) : Int) from by omega, shr8 s (by omega)]
    exact ih k _ (i + 1) (by simp [ho]) (by omega) (by omega) (by omega) (set_step (by omega) hj (dg_get n s i (by omega)))
theorem impl_BytesOf_go (s : Int) (t : Nat) (ht : t ≤ 6) (hlast : t = 6 ∨ s / 256 ^ t ≤ 1) (d : Nat) : ∀ (k n : Nat), n ≤ t → t - n = d → d < k → (∀ m, n ≤ m → m < t → s / 256 ^ m > 1) → impl_BytesOf.l0 k s (n : Int) = impl_BytesOf.j1 (k - d - 1) s (t : Int) := by
  induction d with
  | zero =>
    intro k n hn hd hk hm
    obtain ⟨k, rfl⟩ : ∃ m, k = m + 1 := ⟨k - 1, by omega⟩
    obtain rfl : n = t := by omega
    simp only [impl_BytesOf.l0]
    by_cases h6 : n = 6
    · rw [if_neg (by omega)]; rfl
    · rw [if_pos (by omega), w64 (x := 8 * (n : Int)) (by omega) (by omega), if_pos (by omega), shr8 s (by omega), if_neg (by omega)]; rfl
  | succ d ih =>
    intro k n hn hd hk hm
    obtain ⟨k, rfl⟩ : ∃ m, k = m + 1 := ⟨k - 1, by omega⟩
    simp only [impl_BytesOf.l0]
    rw [if_pos (by omega), w64 (x := 8 * (n : Int)) (by omega) (by omega), if_pos (by omega), shr8 s (by omega), if_pos (hm n (by omega) (by omega)), wnat (by omega), ih k (n + 1) (by omega) (by omega) (by omega) (fun m h1 h2 => hm m (by omega) h2)]
    congr 1; omega
theorem impl_BytesOf_yes (s : Int) (t : Nat) (ht : t ≤ 6) (hs : s / 256 ^ t = 1) (hs1 : 1 ≤ s) {k : Nat} (hk : 20 < k) (hm : ∀ m, m < t → s / 256 ^ m > 1) : impl_BytesOf.f k s = some (dg t s, true) := by
  unfold impl_BytesOf.f
  have h := impl_BytesOf_go s t ht (Or.inr (by omega)) t k 0 (by omega) (by omega) (by omega) (fun m _ h => hm m h)
  rw [show ((0 : Nat) : Int) = 0 from rfl] at h
  rw [h]
  obtain ⟨k', hk'⟩ : ∃ m, k - t - 1 = m + 2 := ⟨k - t - 3, by omega⟩
  rw [hk']
  simp only [impl_BytesOf.j1]
  rw [if_neg (by omega), w64 (x := 8 * (t : Int)) (by omega) (by omega), if_pos (by omega), shr8 s (by omega), hs]
  simp only [impl_BytesOf.j2, bne_self_eq_false]
  rw [if_neg (by decide), if_pos (by omega), if_pos (by omega), Option.bind_some, Int.toNat_natCast, List.length_replicate]
  exact impl_BytesOf_in s t ht t k' _ 0 (by simp) (by omega) (by omega) (by omega) (fun j h => by omega)
theorem impl_BytesOf_not (s : Int) (t : Nat) (ht : t ≤ 6) (hs : s / 256 ^ t ≠ 1) (hlast : t = 6 ∨ s / 256 ^ t ≤ 1) {k : Nat} (hk : 20 < k) (hm : ∀ m, m < t → s / 256 ^ m > 1) : impl_BytesOf.f k s = some ([], false) := by
  unfold impl_BytesOf.f
  have h := impl_BytesOf_go s t ht hlast t k 0 (by omega) (by omega) (by omega) (fun m _ h => hm m h)
  rw [show ((0 : Nat) : Int) = 0 from rfl] at h
  rw [h]
  obtain ⟨k', hk'⟩ : ∃ m, k - t - 1 = m + 2 := ⟨k - t - 3, by omega⟩
  rw [hk']
  simp only [impl_BytesOf.j1]
  by_cases h1 : s < 1
  · rw [if_pos h1]; simp only [impl_BytesOf.j2, if_true]
  · rw [if_neg h1, w64 (x := 8 * (t : Int)) (by omega) (by omega), if_pos (by omega), shr8 s (by omega)]
    have hb : (s / 256 ^ t != 1) = true := bne_iff_ne.2 hs
    rw [hb]; simp only [impl_BytesOf.j2, if_true]
theorem below7 {P : Nat → Prop} {t : Nat} (ht : t ≤ 6) (h : (0 < t → P 0) ∧ (1 < t → P 1) ∧ (2 < t → P 2) ∧ (3 < t → P 3) ∧ (4 < t → P 4) ∧ (5 < t → P 5)) : ∀ m, m < t → P m := by
  intro m hm
  rcases (by omega : m = 0 ∨ m = 1 ∨ m = 2 ∨ m = 3 ∨ m = 4 ∨ m = 5) with rfl | rfl | rfl | rfl | rfl | rfl
  · exact h.1 hm
  · exact h.2.1 hm
  · exact h.2.2.1 hm
  · exact h.2.2.2.1 hm
  · exact h.2.2.2.2.1 hm
  · exact h.2.2.2.2.2 hm
theorem impl_BytesOf_v {k : Nat} (s : Int) (hk : 20 < k) : impl_BytesOf.f k s = some (bytesOfS s) := by
  have yes := fun (t : Nat) (h : t ≤ 6) h1 h2 h3 => impl_BytesOf_yes s t h h1 h2 hk h3
  have nope := fun (t : Nat) (h : t ≤ 6) h1 h2 h3 => impl_BytesOf_not s t h h1 h2 hk h3
  unfold bytesOfS
  by_cases c0 : s < 1
  · rw [if_pos c0, nope 0 (by omega) (by omega) (Or.inr (by omega)) (fun m h => by omega)]
  rw [if_neg c0]
  by_cases c1 : s < 2
  · rw [if_pos c1, yes 0 (by omega) (by omega) (by omega) (fun m h => by omega)]; rfl
  rw [if_neg c1]
  by_cases c2 : s < 256
  · rw [if_pos c2, nope 1 (by omega) (by omega) (Or.inr (by omega)) (below7 (by omega) ⟨by omega, by omega, by omega, by omega, by omega, by omega⟩)]
  rw [if_neg c2]
  by_cases c3 : s < 512
  · rw [if_pos c3, yes 1 (by omega) (by omega) (by omega) (below7 (by omega) ⟨by omega, by omega, by omega, by omega, by omega, by omega⟩)]
  rw [if_neg c3]
  by_cases c4 : s < 65536
  · rw [if_pos c4, nope 2 (by omega) (by omega) (Or.inr (by omega)) (below7 (by omega) ⟨by omega, by omega, by omega, by omega, by omega, by omega⟩)]
  rw [if_neg c4]
  by_cases c5 : s < 131072
  · rw [if_pos c5, yes 2 (by omega) (by omega) (by omega) (below7 (by omega) ⟨by omega, by omega, by omega, by omega, by omega, by omega⟩)]
  rw [if_neg c5]
  by_cases c6 : s < 16777216
  · rw [if_pos c6, nope 3 (by omega) (by omega) (Or.inr (by omega)) (below7 (by omega) ⟨by omega, by omega, by omega, by omega, by omega, by omega⟩)]
  rw [if_neg c6]
  by_cases c7 : s < 33554432
  · rw [if_pos c7, yes 3 (by omega) (by omega) (by omega) (below7 (by omega) ⟨by omega, by omega, by omega, by omega, by omega, by omega⟩)]
  rw [if_neg c7]
  by_cases c8 : s < 4294967296
  · rw [if_pos c8, nope 4 (by omega) (by omega) (Or.inr (by omega)) (below7 (by omega) ⟨by omega, by omega, by omega, by omega, by omega, by omega⟩)]
  rw [if_neg c8]
  by_cases c9 : s < 8589934592
  · rw [if_pos c9, yes 4 (by omega) (by omega) (by omega) (below7 (by omega) ⟨by omega, by omega, by omega, by omega, by omega, by omega⟩)]
  rw [if_neg c9]
  by_cases c10 : s < 1099511627776
  · rw [if_pos c10, nope 5 (by omega) (by omega) (Or.inr (by omega)) (below7 (by omega) ⟨by omega, by omega, by omega, by omega, by omega, by omega⟩)]
  rw [if_neg c10]
  by_cases c11 : s < 2199023255552
  · rw [if_pos c11, yes 5 (by omega) (by omega) (by omega) (below7 (by omega) ⟨by omega, by omega, by omega, by omega, by omega, by omega⟩)]
  rw [if_neg c11]
  by_cases c12 : s < 281474976710656
  · rw [if_pos c12, nope 6 (by omega) (by omega) (Or.inl rfl) (below7 (by omega) ⟨by omega, by omega, by omega, by omega, by omega, by omega⟩)]
  rw [if_neg c12]
  by_cases c13 : s < 562949953421312
  · rw [if_pos c13, yes 6 (by omega) (by omega) (by omega) (below7 (by omega) ⟨by omega, by omega, by omega, by omega, by omega, by omega⟩)]
  · rw [if_neg c13, nope 6 (by omega) (by omega) (Or.inl rfl) (below7 (by omega) ⟨by omega, by omega, by omega, by omega, by omega, by omega⟩)]
theorem spec_SumOf_l (l : List Int) (hb : Byt l) (hl : l.length ≤ 6) (d : Nat) : ∀ (k : Nat) (i : Nat), i ≤ l.length → l.length - i = d → d + 10 < k → spec_SumOf.l0 k l (sumS (l.take i)) (i : Int) = some (weakOf l, sumS l) := by
  induction d with
  | zero =>
    intro k i hi hd hk
    obtain ⟨k, rfl⟩ : ∃ m, k = m + 1 := ⟨k - 1, by omega⟩
    simp only [spec_SumOf.l0]
    rw [if_neg (by omega), spec_WeakOf_v hb (by omega) (by omega), List.take_of_length_le (by omega)]; rfl
  | succ d ih =>
    intro k i hi hd hk
    obtain ⟨k, rfl⟩ : ∃ m, k = m + 1 := ⟨k - 1, by omega⟩
    simp only [spec_SumOf.l0]
    have hc := hb l[i] (List.getElem_mem (by omega))
    have h1 := sumS_small (l := l.take i) (byt_take hb i) (by simp; omega)
    rw [if_pos (by omega), if_pos (by omega), wnat (by omega), rd_at (by omega : i < l.length), w64 (x := 256 * sumS (l.take i)) (by omega) (by omega), w64 (x := l[i]) (by omega) (by omega), w64 (by omega) (by omega)]
    have e : l.take (i + 1) = l.take i ++ [l[i]] := List.take_succ_eq_append_getElem (by omega)
    have := ih k (i + 1) (by omega) (by omega) (by omega)
    rw [e, sumS_snoc, Int.mul_comm] at this
    exact this
theorem spec_SumOf_v {k : Nat} {l : List Int} (hb : Byt l) (hk : 20 < k) : spec_SumOf.f k l = some (sumOf l) := by
  unfold spec_SumOf.f sumOf
  by_cases h : l.length ≤ 6
  · rw [if_neg (by omega), if_pos h]
    exact spec_SumOf_l l hb h l.length k 0 (by omega) (by omega) (by omega)
  · rw [if_pos (by omega), if_neg h]
theorem impl_SumOf_l (l : List Int) (hb : Byt l) (hl : l.length ≤ 6) (d : Nat) : ∀ (k : Nat) (i : Nat), i ≤ l.length → l.length - i = d → d + 10 < k → impl_SumOf.l0 k l (sumS (l.take i)) l (l.length : Int) (i : Int) = some (weakOf l, sumS l) := by
  induction d with
  | zero =>
    intro k i hi hd hk
    obtain ⟨k, rfl⟩ : ∃ m, k = m + 1 := ⟨k - 1, by omega⟩
    simp only [impl_SumOf.l0]
    rw [if_neg (by omega), impl_WeakOf_v hb (by omega) (by omega), List.take_of_length_le (by omega)]; rfl
  | succ d ih =>
    intro k i hi hd hk
    obtain ⟨k, rfl⟩ : ∃ m, k = m + 1 := ⟨k - 1, by omega⟩
    simp only [impl_SumOf.l0]
    have hc := hb l[i] (List.getElem_mem (by omega))
    have h1 := sumS_small (l := l.take i) (byt_take hb i) (by simp; omega)
    rw [if_pos (by omega), if_pos (by omega), if_pos (by omega), wnat (by omega), rd_at (by omega : i < l.length), w64 (x := sumS (l.take i) * 256) (by omega) (by omega), w64 (x := l[i]) (by omega) (by omega), or_256 (by omega) (by omega) hc.1 hc.2]
    have e : l.take (i + 1) = l.take i ++ [l[i]] := List.take_succ_eq_append_getElem (by omega)
    have := ih k (i + 1) (by omega) (by omega) (by omega)
    rw [e, sumS_snoc] at this
    exact this
theorem impl_SumOf_v {k : Nat} {l : List Int} (hb : Byt l) (hk : 20 < k) : impl_SumOf.f k l = some (sumOf l) := by
  unfold impl_SumOf.f sumOf
  by_cases h : l.length ≤ 6
  · rw [if_neg (by omega), if_pos h]
    exact impl_SumOf_l l hb h l.length k 0 (by omega) (by omega) (by omega)
  · rw [if_pos (by omega), if_neg h]
theorem spec_PutVar_l (f : Nat) : ∀ (k : Nat) (n : Int) (b : List Int), f ≤ 8 → 0 ≤ n → n < 128 ^ (f + 1) → b.length ≤ 140737488355000 - f → f < k → spec_PutVar.l0 k n b = some (b ++ vr f n) := by
  induction f with
  | zero =>
    intro k n b hf h0 h1 hb hk
    obtain ⟨k, rfl⟩ : ∃ m, k = m + 1 := ⟨k - 1, by omega⟩
    simp only [spec_PutVar.l0]
    rw [if_neg (by omega), if_pos (by omega), vr]
    rw [Int.emod_eq_of_lt (by omega) (by omega)]
  | succ f ih =>
    intro k n b hf h0 h1 hb hk
    obtain ⟨k, rfl⟩ : ∃ m, k = m + 1 := ⟨k - 1, by omega⟩
    simp only [spec_PutVar.l0]
    have hn : n < 9223372036854775808 := by
      have : (128 : Int) ^ (f + 1 + 1) ≤ 128 ^ 9 := pow128_le (by omega)
      omega
    rw [Int.pow_succ] at h1
    rw [vr]
    by_cases h : n < 128
    · rw [if_neg (by omega), if_pos (by omega), if_pos h, Int.emod_eq_of_lt (by omega) (by omega)]
    · rw [if_pos (by omega), if_pos (by omega), if_neg h, and127n h0 hn, or128 (by omega) (by omega), ih k _ _ (by omega) (by omega) (by omega) (by simp; omega) (by omega)]
      rw [Int.emod_eq_of_lt (by omega) (by omega)]
      simp
theorem spec_PutVar_v {k : Nat} {l : List Int} (hl : l.length ≤ 140737488351232) (n : Int) (hk : 20 < k) : spec_PutVar.f k l n = some (putVar l n) := by
  unfold spec_PutVar.f putVar
  simp only [Option.bind_some, List.length_nil, List.nil_append, spec_l1In_v]
  rw [if_pos (by omega)]
  by_cases h : 0 ≤ n ∧ n ≤ 1000000000000
  · rw [decide_eq_true h, if_pos rfl, if_pos h, spec_PutVar_l 8 k n l (by omega) h.1 (by omega) (by omega) (by omega)]
  · rw [decide_eq_false h, if_neg (by decide), if_neg h]
theorem impl_appendVar_l (f : Nat) : ∀ (k : Nat) (n : Int) (b : List Int), f ≤ 8 → 0 ≤ n → n < 128 ^ (f + 1) → b.length ≤ 140737488355000 - f → f < k → impl_appendVar.l0 k b n = some (b ++ vr f n) := by
  induction f with
  | zero =>
    intro k n b hf h0 h1 hb hk
    obtain ⟨k, rfl⟩ : ∃ m, k = m + 1 := ⟨k - 1, by omega⟩
    simp only [impl_appendVar.l0]
    rw [if_neg (by omega), if_pos (by omega), vr]
    rw [Int.emod_eq_of_lt (by omega) (by omega)]
  | succ f ih =>
    intro k n b hf h0 h1 hb hk
    obtain ⟨k, rfl⟩ : ∃ m, k = m + 1 := ⟨k - 1, by omega⟩
    simp only [impl_appendVar.l0]
    rw [Int.pow_succ] at h1
    rw [vr]
    by_cases h : n < 128
    · rw [if_neg (by omega), if_pos (by omega), if_pos h, Int.emod_eq_of_lt (by omega) (by omega)]
    · rw [if_pos (by omega), if_pos (by omega), if_neg h, or128u (by omega) (by omega), ih k _ _ (by omega) (by omega) (by omega) (by simp; omega) (by omega)]
      rw [show n % 256 % 128 = n % 128 from by omega]
      simp
theorem impl_appendVar_v {k : Nat} {l : List Int} (hl : l.length ≤ 140737488352000) {n : Int} (h0 : 0 ≤ n) (h1 : n < 9223372036854775808) (hk : 20 < k) : impl_appendVar.f k l n = some (l ++ vr 8 n) := by
  unfold impl_appendVar.f
  exact impl_appendVar_l 8 k n l (by omega) h0 (by omega) (by omega) (by omega)
theorem impl_PutVar_v {k : Nat} {l : List Int} (hl : l.length ≤ 140737488351232) (n : Int) (hk : 20 < k) : impl_PutVar.f k l n = some (putVar l n) := by
  unfold impl_PutVar.f putVar
  rw [impl_cloned_v hl, Option.bind_some, impl_within_v, Option.bind_some]
  by_cases h : 0 ≤ n ∧ n ≤ 1000000000000
  · rw [decide_eq_true h, if_pos rfl, if_pos h, impl_appendVar_v (by omega) h.1 (by omega) hk]; rfl
  · rw [decide_eq_false h, if_neg (by decide), if_neg h]
theorem spec_BlockAt_v {l : List Int} (hl : l.length ≤ 140737488351232) (s i : Int) : spec_BlockAt.f l s i = some (blockAt l s i) := by
  unfold spec_BlockAt.f blockAt
  rw [spec_SpanOf_v, Option.bind_some]
  have hg := spanOf_range s (l.length : Int) i
  generalize spanOf s (l.length : Int) i = r at hg ⊢
  by_cases h : r.2 = 0
  · rw [if_pos h, if_pos h]
  · obtain ⟨g0, g1, g2⟩ := hg h
    rw [if_neg h, if_neg h, w64 (x := r.1 + r.2) (by omega) (by omega)]
    simp only [Option.bind_some, List.length_nil, List.nil_append]
    rw [if_pos (by omega), if_pos (by omega), if_pos (by omega), if_pos (by simp; omega)]
theorem laws_big_v (l : List Int) : laws_big.f l = some (decide ((l.length : Int) > 1048576)) := rfl
theorem laws_same_l (a b : List Int) (hab : a.length = b.length) (hl : a.length ≤ 140737488355328) (d : Nat) : ∀ (k : Nat) (i : Nat), i ≤ a.length → a.length - i = d → d < k →
    laws_same.l0 k a b (i : Int) = some (decide (a.drop i = b.drop i)) := by
  induction d with
  | zero =>
    intro k i hi hd hk
    obtain ⟨k, rfl⟩ : ∃ m, k = m + 1 := ⟨k - 1, by omega⟩
    simp only [laws_same.l0]
    rw [if_neg (by omega), List.drop_eq_nil_of_le (by omega), List.drop_eq_nil_of_le (by omega)]
    rfl
  | succ d ih =>
    intro k i hi hd hk
    obtain ⟨k, rfl⟩ : ∃ m, k = m + 1 := ⟨k - 1, by omega⟩
    simp only [laws_same.l0]
    rw [if_pos (by omega), if_pos (by omega), if_pos (by omega), wnat (by omega), rd_at (by omega : i < a.length), rd_at (by omega : i < b.length), ih k (i + 1) (by omega) (by omega) (by omega)]
    have e := drop_eq_iff (a := a) (b := b) (i := i) (by omega) (by omega)
    by_cases h : a[i]'(by omega) = b[i]'(by omega)
    · rw [if_pos h]; simp only [e, h, true_and]
    · rw [if_neg h]; simp only [e, h, false_and, decide_false]
theorem laws_same_v {k : Nat} {a b : List Int} (hl : a.length ≤ 140737488355328) (hk : a.length < k) : laws_same.f k a b = some (decide (a = b)) := by
  unfold laws_same.f
  by_cases h : a.length = b.length
  · rw [if_pos (by omega)]
    exact laws_same_l a b h hl a.length k 0 (by omega) (by omega) hk
  · rw [if_neg (by omega)]
    have : a ≠ b := fun e => h (by rw [e])
    simp [this]
theorem spec_l1New_l (b : List Int) (hb : b.length ≤ 1048576) (d : Nat) : ∀ (k i : Nat) (h : Int), i ≤ b.length → b.length - i = d → d < k → ∃ h', spec_l1New.l0 k b h (i : Int) = some (b, 0, h') := by
  induction d with
  | zero =>
    intro k i h hi hd hk
    obtain ⟨k, rfl⟩ : ∃ m, k = m + 1 := ⟨k - 1, by omega⟩
    simp only [spec_l1New.l0]
    rw [if_neg (by omega)]
    exact ⟨_, rfl⟩
  | succ d ih =>
    intro k i h hi hd hk
    obtain ⟨k, rfl⟩ : ∃ m, k = m + 1 := ⟨k - 1, by omega⟩
    simp only [spec_l1New.l0]
    rw [if_pos (by omega)]
    by_cases h4 : (i : Int) < 4000
    · rw [if_pos h4, if_pos (by omega), wnat (by omega)]
      exact ih k (i + 1) _ (by omega) (by omega) (by omega)
    · rw [if_neg h4]; exact ⟨_, rfl⟩
theorem spec_l1New_x {k : Nat} {b : List Int} (hb : b.length ≤ 1048576) (hk : b.length < k) : ∃ h', spec_l1New.f k b = some (b, 0, h') := by
  unfold spec_l1New.f
  exact spec_l1New_l b hb b.length k 0 _ (by omega) (by omega) hk
theorem cur_start {b : List Int} (hb : b.length ≤ 1048576) : Cur b 0 := ⟨hb, by omega, by omega⟩
theorem spec_l1Byte_x {b : List Int} {i : Int} (hc : Cur b i) (h : Int) : ∃ r i' h', spec_l1Byte.f b i h = some (r, i', h') ∧ 0 ≤ r ∧ r ≤ 255 ∧ Cur b i' := by
  obtain ⟨h0, h1, h2⟩ := hc
  unfold spec_l1Byte.f
  by_cases hi : i < (b.length : Int)
  · rw [if_pos hi, if_pos h1, w64 (x := i + 1) (by omega) (by omega)]
    exact ⟨_, _, _, rfl, (and_le _).1, (and_le _).2, h0, by omega, by omega⟩
  · rw [if_neg hi]
    exact ⟨_, _, _, rfl, (and_le _).1, (and_le _).2, h0, h1, h2⟩
theorem spec_l1Below_x {b : List Int} {i : Int} (hc : Cur b i) (h : Int) (n : Int) : ∃ r i' h', spec_l1Below.f b i h n = some (r, i', h') ∧ 0 ≤ r ∧ (n ≤ 0 → r = 0) ∧ (0 < n → r < n) ∧ Cur b i' := by
  unfold spec_l1Below.f
  by_cases hn : n ≤ 0
  · rw [if_pos hn]
    exact ⟨_, _, _, rfl, by omega, fun _ => rfl, fun h => by omega, hc⟩
  · rw [if_neg hn]
    by_cases h256 : n ≤ 256
    · rw [if_pos h256]
      obtain ⟨r, i', h', e, r0, r1, hc'⟩ := spec_l1Byte_x hc h
      rw [e, Option.bind_some, if_neg (by omega)]
      refine ⟨_, _, _, rfl, ?_, fun h => by omega, fun _ => ?_, hc'⟩ <;> dsimp only <;> rw [tmod_nn r0]
      · exact Int.emod_nonneg _ (by omega)
      · exact Int.emod_lt_of_pos _ (by omega)
    · rw [if_neg h256]
      obtain ⟨r, i', h', e, r0, r1, hc'⟩ := spec_l1Byte_x hc h
      obtain ⟨s, i'', h'', e', s0, s1, hc''⟩ := spec_l1Byte_x hc' h'
      obtain ⟨t, i3, h3, e3, t0, t1, hc3⟩ := spec_l1Byte_x hc'' h''
      rw [e, Option.bind_some, e', Option.bind_some, e3, Option.bind_some, if_neg (by omega)]
      refine ⟨_, _, _, rfl, ?_, fun h => by omega, fun _ => ?_, hc3⟩ <;> dsimp only <;> rw [w64 (x := r * 65536) (by omega) (by omega), w64 (x := s * 256) (by omega) (by omega), w64 (x := r * 65536 + s * 256) (by omega) (by omega), w64 (x := r * 65536 + s * 256 + t) (by omega) (by omega), tmod_nn (by omega)]
      · exact Int.emod_nonneg _ (by omega)
      · exact Int.emod_lt_of_pos _ (by omega)
theorem spec_l1Int_x {b : List Int} {i : Int} (hc : Cur b i) (h : Int) {l : List Int} (hl : 0 < l.length) : ∃ r i' h', spec_l1Int.f b i h l = some (r, i', h') ∧ r ∈ l ∧ Cur b i' := by
  unfold spec_l1Int.f
  obtain ⟨r, i', h', e, r0, r1, r2, hc'⟩ := spec_l1Below_x hc h (l.length : Int)
  have := r2 (by omega)
  rw [e, Option.bind_some, if_pos r0, if_pos this]
  refine ⟨_, _, _, rfl, ?_, hc'⟩
  obtain ⟨m, rfl⟩ := Int.eq_ofNat_of_zero_le r0
  dsimp only
  rw [rd_at (by omega : m < l.length)]
  exact List.getElem_mem _
theorem spec_l1Once_x {b : List Int} {i : Int} (hc : Cur b i) (h : Int) (n : Int) : ∃ (r : Bool) (i' h' : Int), spec_l1Once.f b i h n = some (r, i', h') ∧ Cur b i' := by
  unfold spec_l1Once.f
  obtain ⟨r, i', h', e, r0, r1, r2, hc'⟩ := spec_l1Below_x hc h n
  rw [e, Option.bind_some]
  exact ⟨_, _, _, rfl, hc'⟩
theorem spec_l3Bytes_l {b : List Int} (d : Nat) : ∀ (k : Nat) (acc : List Int) (i h : Int), Cur b i → Byt acc → acc.length + d ≤ 1000000 → d < k →
    ∃ r i' h', spec_l3Bytes.l0 k acc (d : Int) b i h = some (r, i', h') ∧ Byt r ∧ r.length = acc.length + d ∧ Cur b i' := by
  induction d with
  | zero =>
    intro k acc i h hc hb ha hk
    obtain ⟨k, rfl⟩ : ∃ m, k = m + 1 := ⟨k - 1, by omega⟩
    simp only [spec_l3Bytes.l0]
    rw [if_neg (by omega)]
    exact ⟨_, _, _, rfl, hb, rfl, hc⟩
  | succ d ih =>
    intro k acc i h hc hb ha hk
    obtain ⟨k, rfl⟩ : ∃ m, k = m + 1 := ⟨k - 1, by omega⟩
    simp only [spec_l3Bytes.l0]
    obtain ⟨r, i', h', e, hr, hc'⟩ := spec_l1Int_x hc h (l := [97, 98, 99, 0, 255]) (by decide)
    have hr2 : 0 ≤ r ∧ r ≤ 255 := by
      simp only [List.mem_cons, List.not_mem_nil, or_false] at hr
      omega
    rw [if_pos (by omega), e, Option.bind_some, if_pos (by omega), mod256 hr2.1 hr2.2, w64 (by omega) (by omega), show ((d + 1 : Nat) : Int) - 1 = (d : Int) from by omega]
    obtain ⟨r2, i2, h2, e2, b2, l2, c2⟩ := ih k (acc ++ [r]) i' h' hc' (byt_snoc.2 ⟨hb, hr2⟩) (by simp; omega) (by omega)
    exact ⟨r2, i2, h2, e2, b2, by rw [l2]; simp; omega, c2⟩
theorem spec_l3Bytes_x {k : Nat} {b : List Int} {i : Int} (hc : Cur b i) (h : Int) {n : Int} (h0 : 0 ≤ n) (h1 : n ≤ 1000) (hk : 2000 < k) : ∃ r i' h', spec_l3Bytes.f k b i h n = some (r, i', h') ∧ Byt r ∧ (r.length : Int) ≤ n ∧ Cur b i' := by
  unfold spec_l3Bytes.f
  rw [w64 (by omega) (by omega)]
  obtain ⟨r, i', h', e, r0, r1, r2, hc'⟩ := spec_l1Below_x hc h (n + 1)
  have := r2 (by omega)
  rw [e, Option.bind_some]
  obtain ⟨m, rfl⟩ := Int.eq_ofNat_of_zero_le r0
  obtain ⟨r2, i2, h2, e2, b2, l2, c2⟩ := spec_l3Bytes_l m k [] i' h' hc' byt_nil (by simp; omega) (by omega)
  exact ⟨r2, i2, h2, e2, b2, by rw [l2]; simp; omega, c2⟩
theorem spec_l1Bytes_l {b : List Int} (n : Nat) (hn : n ≤ 1000000) (d : Nat) : ∀ (k : Nat) (acc : List Int) (j : Nat) (i h : Int), Cur b i → Byt acc → acc.length = j → j + d = n → d < k →
    ∃ r i' h', spec_l1Bytes.l0 k (n : Int) acc (j : Int) b i h = some (r, i', h') ∧ Byt r ∧ r.length = n ∧ Cur b i' := by
  induction d with
  | zero =>
    intro k acc j i h hc hb ha hd hk
    obtain ⟨k, rfl⟩ : ∃ m, k = m + 1 := ⟨k - 1, by omega⟩
    simp only [spec_l1Bytes.l0]
    rw [if_neg (by omega)]
    exact ⟨_, _, _, rfl, hb, by omega, hc⟩
  | succ d ih =>
    intro k acc j i h hc hb ha hd hk
    obtain ⟨k, rfl⟩ : ∃ m, k = m + 1 := ⟨k - 1, by omega⟩
    simp only [spec_l1Bytes.l0]
    obtain ⟨r, i', h', e, r0, r1, hc'⟩ := spec_l1Byte_x hc h
    rw [if_pos (by omega), e, Option.bind_some, if_pos (by omega), mod256 r0 r1, wnat (by omega)]
    exact ih k (acc ++ [r]) (j + 1) i' h' hc' (byt_snoc.2 ⟨hb, r0, r1⟩) (by simp; omega) (by omega) (by omega)
theorem spec_l1Bytes_x {k : Nat} {b : List Int} {i : Int} (hc : Cur b i) (h : Int) {n : Int} (h0 : 0 ≤ n) (h1 : n ≤ 1000) (hk : 2000 < k) : ∃ r i' h', spec_l1Bytes.f k b i h n = some (r, i', h') ∧ Byt r ∧ (r.length : Int) = n ∧ Cur b i' := by
  unfold spec_l1Bytes.f
  obtain ⟨m, rfl⟩ := Int.eq_ofNat_of_zero_le h0
  obtain ⟨r2, i2, h2, e2, b2, l2, c2⟩ := spec_l1Bytes_l m (by omega) m k [] 0 i h hc byt_nil rfl (by omega) (by omega)
  exact ⟨r2, i2, h2, e2, b2, by omega, c2⟩
theorem byt_set {l : List Int} (h : Byt l) (i : Nat) {v : Int} (h0 : 0 ≤ v) (h1 : v ≤ 255) : Byt (l.set i v) := by
  intro x hx
  rcases List.mem_or_eq_of_mem_set hx with hx | rfl
  · exact h x hx
  · exact ⟨h0, h1⟩
theorem u8_range (op : BinOp) (x y : Int) : 0 ≤ Go.bits op .u8 x y ∧ Go.bits op .u8 x y ≤ 255 := by
  unfold Go.bits
  simp only [IntKind.wrap_u8]
  omega
theorem spec_l1Bent_x {b : List Int} {i : Int} (hc : Cur b i) (h : Int) {l : List Int} (hb : Byt l) (hl : l.length ≤ 1000000) : ∃ r i' h', spec_l1Bent.f b i h l = some (r, i', h') ∧ Byt r ∧ r.length ≤ l.length + 1 ∧ Cur b i' := by
  unfold spec_l1Bent.f
  simp only [Option.bind_some, List.length_nil, List.nil_append]
  rw [if_pos (by omega)]
  obtain ⟨r, i1, h1, e1, r0, _, r2, c1⟩ := spec_l1Below_x hc h 6
  rw [e1]
  simp only [Option.bind_some]
  by_cases q0 : r = 0
  · rw [if_pos q0]
    by_cases hp : (l.length : Int) > 0
    · rw [if_pos hp]
      obtain ⟨s, i2, h2, e2, s0, _, s2, c2⟩ := spec_l1Below_x c1 h1 (l.length : Int)
      obtain ⟨t, i3, h3, e3, t0, _, t2, c3⟩ := spec_l1Below_x c2 h2 256
      have := s2 (by omega)
      rw [e2]
      simp only [Option.bind_some]
      rw [e3]
      simp only [Option.bind_some]
      rw [if_pos s0, if_pos (by omega)]
      exact ⟨_, _, _, rfl, byt_set hb _ (by omega) (by omega), by simp, c3⟩
    · rw [if_neg hp]; exact ⟨_, _, _, rfl, hb, by omega, c1⟩
  · rw [if_neg q0]
    by_cases q1 : r = 1
    · rw [if_pos q1, w64 (by omega) (by omega)]
      obtain ⟨s, i2, h2, e2, s0, _, s2, c2⟩ := spec_l1Below_x c1 h1 ((l.length : Int) + 1)
      have := s2 (by omega)
      rw [e2]
      simp only [Option.bind_some]
      rw [if_pos s0, if_pos (by omega)]
      exact ⟨_, _, _, rfl, byt_take hb _, by simp; omega, c2⟩
    · rw [if_neg q1]
      by_cases q2 : r = 2
      · rw [if_pos q2]
        obtain ⟨s, i2, h2, e2, hs, c2⟩ := spec_l1Int_x c1 h1 (l := [0, 1, 128, 255]) (by decide)
        rw [e2]
        simp only [Option.bind_some]
        rw [if_pos (by omega)]
        exact ⟨_, _, _, rfl, byt_snoc.2 ⟨hb, by omega, by omega⟩, by simp, c2⟩
      · rw [if_neg q2]
        by_cases q3 : r = 3
        · rw [if_pos q3]
          by_cases hp : (l.length : Int) > 0
          · rw [if_pos hp]
            obtain ⟨s, i2, h2, e2, s0, _, s2, c2⟩ := spec_l1Below_x c1 h1 (l.length : Int)
            obtain ⟨t, i3, h3, e3, t0, _, t2, c3⟩ := spec_l1Below_x c2 h2 8
            have := s2 (by omega)
            rw [e2]
            simp only [Option.bind_some]
            rw [if_pos s0, if_pos (by omega), e3]
            simp only [Option.bind_some]
            rw [if_pos t0]
            exact ⟨_, _, _, rfl, byt_set hb _ (u8_range _ _ _).1 (u8_range _ _ _).2, by simp, c3⟩
          · rw [if_neg hp]; exact ⟨_, _, _, rfl, hb, by omega, c1⟩
        · rw [if_neg q3]; exact ⟨_, _, _, rfl, hb, by omega, c1⟩
theorem spec_SumsOf_l (l : List Int) (hb : Byt l) (hl : l.length ≤ 140737488351232) (s : Int) (n : Nat) (hn : blocks s (l.length : Int) = (n : Int)) (d : Nat) : ∀ (k i : Nat) (acc : List S56), i + d = n → d + 30 < k →
    acc = toSs ((List.range i).map fun (j : Nat) => sumOf (blockAt l s (j : Int)).1) → spec_SumsOf.l0 k l s acc (i : Int) = some (toSs ((List.range n).map fun (j : Nat) => sumOf (blockAt l s (j : Int)).1)) := by
  have hbl := blocks_le s (l.length : Int)
  induction d with
  | zero =>
    intro k i acc hi hk hacc
    obtain ⟨k, rfl⟩ : ∃ m, k = m + 1 := ⟨k - 1, by omega⟩
    simp only [spec_SumsOf.l0]
    rw [spec_Blocks_v, Option.bind_some, hn, if_neg (by omega), hacc, show i = n from by omega]
  | succ d ih =>
    intro k i acc hi hk hacc
    obtain ⟨k, rfl⟩ : ∃ m, k = m + 1 := ⟨k - 1, by omega⟩
    simp only [spec_SumsOf.l0]
    have ha : acc.length = i := by rw [hacc, toSs_length]; simp
    rw [spec_Blocks_v, Option.bind_some, hn, if_pos (by omega), spec_BlockAt_v hl, Option.bind_some, spec_SumOf_v (blockAt_byt hb s _) (by omega), Option.bind_some, if_pos (by omega), wnat (by omega)]
    refine ih k (i + 1) _ (by omega) (by omega) ?_
    rw [hacc, List.range_succ, List.map_append]
    simp [toSs, toS]
theorem spec_SumsOf_v {k : Nat} {l : List Int} (hb : Byt l) (hl : l.length ≤ 140737488351232) (s : Int) (hk : 100 < k) : spec_SumsOf.f k l s = some (toSs (sumsOf l s)) := by
  unfold spec_SumsOf.f sumsOf
  have hbl := blocks_le s (l.length : Int)
  obtain ⟨n, hn⟩ := Int.eq_ofNat_of_zero_le hbl.1
  have h := spec_SumsOf_l l hb hl s n hn n k 0 [] (by omega) (by omega) (by simp [toSs])
  rw [hn, Int.toNat_natCast]
  exact h
theorem spec_ManOf_v {k : Nat} (g : Int) {l : List Int} (hb : Byt l) (hl : l.length ≤ 140737488351232) (s : Int) (hk : 100 < k) : spec_ManOf.f k g l s = some ((manOf g l s).1, (manOf g l s).2.1, (manOf g l s).2.2.1, toSs (manOf g l s).2.2.2) := by
  unfold spec_ManOf.f manOf
  rw [spec_l1In_v, Option.bind_some]
  by_cases h : 1 ≤ g ∧ g ≤ 1000000
  · rw [decide_eq_true h, if_pos rfl, spec_SizeOk_v, Option.bind_some]
    by_cases h2 : sizeOk s (l.length : Int) = true
    · rw [if_pos h2, spec_SumsOf_v hb hl s hk, if_pos ⟨h.1, h.2, h2⟩]; rfl
    · rw [if_neg h2, if_neg (fun e => h2 e.2.2)]; rfl
  · rw [decide_eq_false h, if_neg (by decide), if_neg (fun e => h ⟨e.1, e.2.1⟩)]; rfl
theorem spec_FullSet_v (n : Int) : spec_FullSet.f n = some (fullSet n) := by
  unfold spec_FullSet.f fullSet
  rw [spec_l1In_v, Option.bind_some]
  by_cases h : 0 ≤ n ∧ n ≤ 40
  · rw [decide_eq_true h, if_pos rfl, if_pos h.1, if_pos h]
  · rw [decide_eq_false h, if_neg (by decide), if_neg h]
theorem impl_FullSet_v (n : Int) : impl_FullSet.f n = some (fullSet n) := by
  unfold impl_FullSet.f fullSet
  rw [impl_within_v, Option.bind_some]
  by_cases h : 0 ≤ n ∧ n ≤ 40
  · rw [decide_eq_true h, if_pos rfl, if_pos h.1, if_pos h]
  · rw [decide_eq_false h, if_neg (by decide), if_neg h]
theorem spec_AllParts_v (a b c : Int) (l : List S56) : spec_AllParts.f a b c l = some (fullSet (l.length : Int)) := by
  unfold spec_AllParts.f
  rw [spec_FullSet_v]; rfl
theorem impl_AllParts_v (a b c : Int) (l : List S56) : impl_AllParts.f a b c l = some (fullSet (l.length : Int)) := by
  unfold impl_AllParts.f
  rw [impl_FullSet_v]; rfl
theorem impl_Sum_l (a b : List S56) (hab : a.length = b.length) (hl : a.length ≤ 140737488355328) (d : Nat) : ∀ (k : Nat) (i : Nat), i ≤ a.length → a.length - i = d → d < k →
    impl_Sum.l0 k a b (a.length : Int) (i : Int) = some (decide (a.drop i = b.drop i)) := by
  induction d with
  | zero =>
    intro k i hi hd hk
    obtain ⟨k, rfl⟩ : ∃ m, k = m + 1 := ⟨k - 1, by omega⟩
    simp only [impl_Sum.l0]
    rw [if_neg (by omega)]
    have e : a.drop i = b.drop i := by rw [List.drop_eq_nil_of_le (by omega), List.drop_eq_nil_of_le (by omega)]
    rw [decide_eq_true e]
  | succ d ih =>
    intro k i hi hd hk
    obtain ⟨k, rfl⟩ : ∃ m, k = m + 1 := ⟨k - 1, by omega⟩
    simp only [impl_Sum.l0]
    rw [if_pos (by omega), if_pos (by omega), if_pos (by omega), if_pos (by omega), wnat (by omega), rd_S (by omega : i < a.length), rd_S (by omega : i < b.length), ih k (i + 1) (by omega) (by omega) (by omega)]
    have e := drop_eq_iffS (a := a) (b := b) (i := i) (by omega) (by omega)
    by_cases h : a[i]'(by omega) = b[i]'(by omega)
    · rw [if_neg (by rw [h]; simp)]; simp only [e, h, true_and]
    · rw [if_pos]
      · simp only [e, h, false_and, decide_false]
      · have h' : ¬ ((a[i]'(by omega)).f0 = (b[i]'(by omega)).f0 ∧ (a[i]'(by omega)).f1 = (b[i]'(by omega)).f1) := fun g => h (S_eq_iff.1 (Prod.ext g.1 g.2))
        by_cases g : (a[i]'(by omega)).f0 = (b[i]'(by omega)).f0
        · have g2 : ¬ (a[i]'(by omega)).f1 = (b[i]'(by omega)).f1 := fun z => h' ⟨g, z⟩
          simp [g, g2]
        · simp [g]
theorem impl_Sum_v {k : Nat} {a b : List S56} (hl : a.length ≤ 140737488355328) (hk : a.length < k) : impl_Sum.f k a b = some (decide (a = b)) := by
  unfold impl_Sum.f
  by_cases h : a.length = b.length
  · rw [if_pos (by omega)]
    exact impl_Sum_l a b h hl a.length k 0 (by omega) (by omega) hk
  · rw [if_neg (by omega)]
    have : a ≠ b := fun e => h (by rw [e])
    simp [this]
theorem laws_sameSums_l (a b : List S56) (hab : a.length = b.length) (hl : a.length ≤ 140737488355328) (d : Nat) : ∀ (k : Nat) (i : Nat), i ≤ a.length → a.length - i = d → d < k →
    laws_sameSums.l0 k a b (i : Int) = some (decide (a.drop i = b.drop i)) := by
  induction d with
  | zero =>
    intro k i hi hd hk
    obtain ⟨k, rfl⟩ : ∃ m, k = m + 1 := ⟨k - 1, by omega⟩
    simp only [laws_sameSums.l0]
    rw [if_neg (by omega)]
    have e : a.drop i = b.drop i := by rw [List.drop_eq_nil_of_le (by omega), List.drop_eq_nil_of_le (by omega)]
    rw [decide_eq_true e]
  | succ d ih =>
    intro k i hi hd hk
    obtain ⟨k, rfl⟩ : ∃ m, k = m + 1 := ⟨k - 1, by omega⟩
    simp only [laws_sameSums.l0]
    rw [if_pos (by omega), if_pos (by omega), if_pos (by omega), wnat (by omega), rd_S (by omega : i < a.length), rd_S (by omega : i < b.length), ih k (i + 1) (by omega) (by omega) (by omega)]
    have e := drop_eq_iffS (a := a) (b := b) (i := i) (by omega) (by omega)
    by_cases h : a[i]'(by omega) = b[i]'(by omega)
    · rw [if_neg (by rw [h]; simp)]; simp only [e, h, true_and]
    · rw [if_pos]
      · simp only [e, h, false_and, decide_false]
      · have h' : ¬ ((a[i]'(by omega)).f0 = (b[i]'(by omega)).f0 ∧ (a[i]'(by omega)).f1 = (b[i]'(by omega)).f1) := fun g => h (S_eq_iff.1 (Prod.ext g.1 g.2))
        by_cases g : (a[i]'(by omega)).f0 = (b[i]'(by omega)).f0
        · have g2 : ¬ (a[i]'(by omega)).f1 = (b[i]'(by omega)).f1 := fun z => h' ⟨g, z⟩
          simp [g, g2]
        · simp [g]
theorem laws_sameSums_v {k : Nat} {a b : List S56} (hl : a.length ≤ 140737488355328) (hk : a.length < k) : laws_sameSums.f k a b = some (decide (a = b)) := by
  unfold laws_sameSums.f
  by_cases h : a.length = b.length
  · rw [if_pos (by omega)]
    exact laws_sameSums_l a b h hl a.length k 0 (by omega) (by omega) hk
  · rw [if_neg (by omega)]
    have : a ≠ b := fun e => h (by rw [e])
    simp [this]
theorem impl_SameMan_v {k : Nat} {a b c a' b' c' : Int} {l l' : List S56} (hl : l.length ≤ 140737488355328) (hk : l.length < k) : impl_SameMan.f k a b c l a' b' c' l' = some (decide ((a, b, c, l) = (a', b', c', l'))) := by
  unfold impl_SameMan.f
  rw [impl_Sum_v hl hk]
  by_cases h1 : a = a'
  · by_cases h2 : b = b'
    · by_cases h3 : c = c'
      · by_cases h4 : l = l'
        · simp [h1, h2, h3, h4]
        · simp [h1, h2, h3, h4]
      · simp [h1, h2, h3]
    · simp [h1, h2]
  · simp [h1]
theorem bytesOfS_sum {s : Int} (h : (bytesOfS s).2 = true) : sumS (bytesOfS s).1 = s ∧ Byt (bytesOfS s).1 := by
  unfold bytesOfS at h ⊢
  by_cases c0 : s < 1
  · rw [if_pos c0] at h; simp at h
  rw [if_neg c0] at h ⊢
  by_cases c1 : s < 2
  · rw [if_pos c1]; exact ⟨by simp [sumS]; omega, byt_nil⟩
  rw [if_neg c1] at h ⊢
  by_cases c2 : s < 256
  · rw [if_pos c2] at h; simp at h
  rw [if_neg c2] at h ⊢
  by_cases c3 : s < 512
  · rw [if_pos c3]; exact ⟨sumS_dg 1 s (by omega) (by omega), dg_byt 1 s⟩
  rw [if_neg c3] at h ⊢
  by_cases c4 : s < 65536
  · rw [if_pos c4] at h; simp at h
  rw [if_neg c4] at h ⊢
  by_cases c5 : s < 131072
  · rw [if_pos c5]; exact ⟨sumS_dg 2 s (by omega) (by omega), dg_byt 2 s⟩
  rw [if_neg c5] at h ⊢
  by_cases c6 : s < 16777216
  · rw [if_pos c6] at h; simp at h
  rw [if_neg c6] at h ⊢
  by_cases c7 : s < 33554432
  · rw [if_pos c7]; exact ⟨sumS_dg 3 s (by omega) (by omega), dg_byt 3 s⟩
  rw [if_neg c7] at h ⊢
  by_cases c8 : s < 4294967296
  · rw [if_pos c8] at h; simp at h
  rw [if_neg c8] at h ⊢
  by_cases c9 : s < 8589934592
  · rw [if_pos c9]; exact ⟨sumS_dg 4 s (by omega) (by omega), dg_byt 4 s⟩
  rw [if_neg c9] at h ⊢
  by_cases d0 : s < 1099511627776
  · rw [if_pos d0] at h; simp at h
  rw [if_neg d0] at h ⊢
  by_cases d1 : s < 2199023255552
  · rw [if_pos d1]; exact ⟨sumS_dg 5 s (by omega) (by omega), dg_byt 5 s⟩
  rw [if_neg d1] at h ⊢
  by_cases d2 : s < 281474976710656
  · rw [if_pos d2] at h; simp at h
  rw [if_neg d2] at h ⊢
  by_cases d3 : s < 562949953421312
  · rw [if_pos d3]; exact ⟨sumS_dg 6 s (by omega) (by omega), dg_byt 6 s⟩
  rw [if_neg d3] at h; simp at h
def sumOkAt (size len : Int) (i : Nat) (x : S56) : Prop :=
  (bytesOfS x.f1).2 = true ∧ ((bytesOfS x.f1).1.length : Int) = (spanOf size len (i : Int)).2 ∧ weakOf (bytesOfS x.f1).1 = x.f0
instance (size len : Int) (i : Nat) (x : S56) : Decidable (sumOkAt size len i x) := by unfold sumOkAt; exact inferInstance
def sumsOk (size len : Int) : Nat → List S56 → Bool
  | _, [] => true
  | i, x :: r => if sumOkAt size len i x then sumsOk size len (i + 1) r else false
def manOk (a b c : Int) (l : List S56) : Bool :=
  if a = 0 then decide (b = 0 ∧ c = 0 ∧ l = [])
  else if 1 ≤ a ∧ a ≤ 1000000 ∧ sizeOk b c = true ∧ (l.length : Int) = blocks b c then sumsOk b c 0 l else false
theorem spec_ManOk_l (a b c : Int) (l : List S56) (hl : l.length ≤ 140737488355328) (d : Nat) : ∀ (k : Nat) (i : Nat), i ≤ l.length → l.length - i = d → d + 30 < k →
    spec_ManOk.l0 k (i : Int) a b c l = some (sumsOk b c i (l.drop i)) := by
  induction d with
  | zero =>
    intro k i hi hd hk
    obtain ⟨k, rfl⟩ : ∃ m, k = m + 1 := ⟨k - 1, by omega⟩
    simp only [spec_ManOk.l0]
    rw [if_neg (by omega), List.drop_eq_nil_of_le (by omega)]; rfl
  | succ d ih =>
    intro k i hi hd hk
    obtain ⟨k, rfl⟩ : ∃ m, k = m + 1 := ⟨k - 1, by omega⟩
    simp only [spec_ManOk.l0]
    rw [if_pos (by omega), if_pos (by omega), rd_S (by omega : i < l.length), spec_BytesOf_v _ (by omega), Option.bind_some, spec_SpanOf_v, Option.bind_some, List.drop_eq_getElem_cons (by omega : i < l.length), sumsOk, wnat (by omega), ih k (i + 1) (by omega) (by omega) (by omega)]
    generalize l[i]'(by omega) = x
    by_cases h1 : (bytesOfS x.f1).2 = true
    · obtain ⟨e1, hby⟩ := bytesOfS_sum h1
      have hlen := bytesOfS_length x.f1
      by_cases h2 : ((bytesOfS x.f1).1.length : Int) = (spanOf b c (i : Int)).2
      · have es : sumOf (bytesOfS x.f1).1 = (weakOf (bytesOfS x.f1).1, x.f1) := by unfold sumOf; rw [if_pos hlen, e1]
        rw [if_pos h1, if_pos h2, spec_SumOf_v hby (by omega), Option.bind_some]
        simp only [es]
        by_cases h3 : weakOf (bytesOfS x.f1).1 = x.f0
        · rw [if_pos (show sumOkAt b c i x from ⟨h1, h2, h3⟩), h3]; simp
        · rw [if_neg (fun g : sumOkAt b c i x => h3 g.2.2)]; simp [h3]
      · rw [if_pos h1, if_neg h2, if_neg (fun g : sumOkAt b c i x => h2 g.2.1)]
    · rw [if_neg h1, if_neg (fun g : sumOkAt b c i x => h1 g.1)]
theorem spec_ManOk_v {k : Nat} (a b c : Int) {l : List S56} (hl : l.length ≤ 140737488355328) (hk : l.length + 40 < k) : spec_ManOk.f k a b c l = some (manOk a b c l) := by
  obtain ⟨k, rfl⟩ : ∃ m, k = m + 1 := ⟨k - 1, by omega⟩
  unfold spec_ManOk.f manOk
  have h0 := spec_ManOk_l a b c l hl l.length k 0 (by omega) (by omega) (by omega)
  simp only [List.drop_zero, show ((0 : Nat) : Int) = 0 from rfl] at h0
  simp only [spec_l1In_v, spec_SizeOk_v, spec_Blocks_v, Option.bind_some, spec_ManOk.j0]
  by_cases hz : a = 0
  · rw [if_pos hz, if_pos hz]
    by_cases h1 : b = 0
    · by_cases h2 : c = 0
      · cases l with
        | nil => simp [h1, h2]
        | cons x r => simp [h1, h2]; omega
      · simp [h1, h2]
    · simp [h1]
  · rw [if_neg hz, if_neg hz]
    by_cases h1 : 1 ≤ a ∧ a ≤ 1000000
    · by_cases h2 : sizeOk b c = true
      · by_cases h3 : (l.length : Int) = blocks b c
        · simp [h1, h2, h3, h0]
        · simp [h1, h2, h3]
      · simp [h1, h2]
    · rw [decide_eq_false h1, if_neg (by decide : ¬ false = true), if_pos trivial, if_neg (fun g => h1 ⟨g.1, g.2.1⟩)]
theorem impl_ManOk_l (a b c : Int) (l : List S56) (hl : l.length ≤ 140737488355328) (d : Nat) : ∀ (k : Nat) (i : Nat), i ≤ l.length → l.length - i = d → d + 30 < k →
    impl_ManOk.l0 k l (l.length : Int) (i : Int) a b c l = some (sumsOk b c i (l.drop i)) := by
  induction d with
  | zero =>
    intro k i hi hd hk
    obtain ⟨k, rfl⟩ : ∃ m, k = m + 1 := ⟨k - 1, by omega⟩
    simp only [impl_ManOk.l0]
    rw [if_neg (by omega), List.drop_eq_nil_of_le (by omega)]; rfl
  | succ d ih =>
    intro k i hi hd hk
    obtain ⟨k, rfl⟩ : ∃ m, k = m + 1 := ⟨k - 1, by omega⟩
    simp only [impl_ManOk.l0]
    rw [if_pos (by omega), if_pos (by omega), if_pos (by omega), rd_S (by omega : i < l.length), impl_BytesOf_v _ (by omega), Option.bind_some, impl_SpanOf_v, Option.bind_some, List.drop_eq_getElem_cons (by omega : i < l.length), sumsOk, wnat (by omega), ih k (i + 1) (by omega) (by omega) (by omega)]
    generalize l[i]'(by omega) = x
    by_cases h1 : (bytesOfS x.f1).2 = true
    · obtain ⟨e1, hby⟩ := bytesOfS_sum h1
      have hlen := bytesOfS_length x.f1
      by_cases h2 : ((bytesOfS x.f1).1.length : Int) = (spanOf b c (i : Int)).2
      · rw [if_pos h1, if_pos h2, impl_WeakOf_v hby (by omega) (by omega), Option.bind_some]
        by_cases h3 : weakOf (bytesOfS x.f1).1 = x.f0
        · rw [if_pos h3, if_pos (show sumOkAt b c i x from ⟨h1, h2, h3⟩)]
        · rw [if_neg h3, if_neg (fun g : sumOkAt b c i x => h3 g.2.2)]
      · rw [if_pos h1, if_neg h2, if_neg (fun g : sumOkAt b c i x => h2 g.2.1)]
    · rw [if_neg h1, if_neg (fun g : sumOkAt b c i x => h1 g.1)]
theorem impl_isZeroMan_v (a b c : Int) (l : List S56) : impl_isZeroMan.f a b c l = some (decide (a = 0 ∧ b = 0 ∧ c = 0 ∧ l = [])) := by
  unfold impl_isZeroMan.f
  by_cases h0 : a = 0
  · by_cases h1 : b = 0
    · by_cases h2 : c = 0
      · cases l with
        | nil => simp [h0, h1, h2]
        | cons x r => simp [h0, h1, h2]; omega
      · simp [h1, h2]
    · simp [h1]
  · simp [h0]
theorem impl_ManOk_v {k : Nat} (a b c : Int) {l : List S56} (hl : l.length ≤ 140737488355328) (hk : l.length + 40 < k) : impl_ManOk.f k a b c l = some (manOk a b c l) := by
  obtain ⟨k, rfl⟩ : ∃ m, k = m + 1 := ⟨k - 1, by omega⟩
  unfold impl_ManOk.f manOk
  have h0 := impl_ManOk_l a b c l hl l.length k 0 (by omega) (by omega) (by omega)
  simp only [List.drop_zero, show ((0 : Nat) : Int) = 0 from rfl] at h0
  simp only [impl_isZeroMan_v, impl_within_v, impl_SizeOk_v, impl_Blocks_v, Option.bind_some, impl_ManOk.j0]
  by_cases hz : a = 0
  · rw [if_pos hz]
    by_cases h1 : b = 0 ∧ c = 0 ∧ l = []
    · simp [hz, h1]
    · have : ¬ (1 ≤ a ∧ a ≤ 1000000) := by omega
      simp [hz, h1]
  · rw [if_neg hz]
    have hz' : ¬ (a = 0 ∧ b = 0 ∧ c = 0 ∧ l = []) := fun g => hz g.1
    rw [decide_eq_false hz', if_neg (by decide)]
    by_cases h1 : 1 ≤ a ∧ a ≤ 1000000
    · by_cases h2 : sizeOk b c = true
      · by_cases h3 : (l.length : Int) = blocks b c
        · simp [h1, h2, h3]
          rw [← h3]; exact h0
        · simp [h1, h2, h3]
      · simp [h1, h2]
    · rw [decide_eq_false h1, if_neg (by decide : ¬ false = true), if_pos trivial, if_neg (fun g => h1 ⟨g.1, g.2.1⟩)]
theorem spec_l6PutSum_l (f : Nat) : ∀ (k : Nat) (n : Int) (b : List Int), f ≤ 8 → 0 ≤ n → n < 128 ^ (f + 1) → b.length ≤ 140737488355000 - f → f < k → spec_l6PutSum.l0 k b n = some (b ++ vr f n) := by
  induction f with
  | zero =>
    intro k n b hf h0 h1 hb hk
    obtain ⟨k, rfl⟩ : ∃ m, k = m + 1 := ⟨k - 1, by omega⟩
    simp only [spec_l6PutSum.l0]
    rw [if_neg (by omega), if_pos (by omega), vr]
    rw [Int.emod_eq_of_lt (by omega) (by omega)]
  | succ f ih =>
    intro k n b hf h0 h1 hb hk
    obtain ⟨k, rfl⟩ : ∃ m, k = m + 1 := ⟨k - 1, by omega⟩
    simp only [spec_l6PutSum.l0]
    have hn : n < 9223372036854775808 := by
      have : (128 : Int) ^ (f + 1 + 1) ≤ 128 ^ 9 := pow128_le (by omega)
      omega
    rw [Int.pow_succ] at h1
    rw [vr]
    by_cases h : n < 128
    · rw [if_neg (by omega), if_pos (by omega), if_pos h, Int.emod_eq_of_lt (by omega) (by omega)]
    · rw [if_pos (by omega), if_pos (by omega), if_neg h, and127n h0 hn, or128 (by omega) (by omega), ih k _ _ (by omega) (by omega) (by omega) (by simp; omega) (by omega)]
      rw [Int.emod_eq_of_lt (by omega) (by omega)]
      simp
theorem spec_l6PutSum_v {k : Nat} {l : List Int} (hl : l.length ≤ 140737488352000) {n : Int} (h0 : 0 ≤ n) (h1 : n < 9223372036854775808) (hk : 20 < k) : spec_l6PutSum.f k l n = some (l ++ vr 8 n) := by
  unfold spec_l6PutSum.f
  exact spec_l6PutSum_l 8 k n l (by omega) h0 (by omega) (by omega) (by omega)
def putSums (acc : List Int) : List S56 → List Int
  | [] => acc
  | x :: r => putSums (acc ++ vr 8 x.f1) r
theorem putSums_length (l : List S56) : ∀ acc, (putSums acc l).length ≤ acc.length + 9 * l.length := by
  induction l with
  | nil => intro acc; simp [putSums]
  | cons x r ih =>
    intro acc
    rw [putSums]
    have h1 := ih (acc ++ vr 8 x.f1)
    have h2 := vr_length 8 x.f1
    simp only [List.length_append, List.length_cons] at h1 ⊢
    omega
def putMan (out : List Int) (a b c : Int) (l : List S56) : List Int := if manOk a b c l = true then putSums (putVar (putVar (putVar out a) b) c) l else out
theorem bytesOfS_range {s : Int} (h : (bytesOfS s).2 = true) : 0 ≤ s ∧ s < 9223372036854775808 := by
  obtain ⟨h1, h2⟩ := bytesOfS_sum h
  have h3 := sumS_small h2 (bytesOfS_length s)
  omega
theorem sumsOk_range (b c : Int) (l : List S56) : ∀ i, sumsOk b c i l = true → ∀ x ∈ l, 0 ≤ x.f1 ∧ x.f1 < 9223372036854775808 := by
  induction l with
  | nil => intro i _ x hx; simp at hx
  | cons y r ih =>
    intro i h x hx
    rw [sumsOk] at h
    by_cases hy : sumOkAt b c i y
    · rw [if_pos hy] at h
      rcases List.mem_cons.1 hx with rfl | hx
      · exact bytesOfS_range hy.1
      · exact ih (i + 1) h x hx
    · rw [if_neg hy] at h; simp at h
theorem manOk_in {a b c : Int} {l : List S56} (h : manOk a b c l = true) : l.length ≤ 40 ∧ ∀ x ∈ l, 0 ≤ x.f1 ∧ x.f1 < 9223372036854775808 := by
  unfold manOk at h
  by_cases h0 : a = 0
  · rw [if_pos h0] at h
    obtain ⟨_, _, rfl⟩ := of_decide_eq_true h
    exact ⟨by simp, fun x hx => by simp at hx⟩
  · rw [if_neg h0] at h
    by_cases h1 : 1 ≤ a ∧ a ≤ 1000000 ∧ sizeOk b c = true ∧ (l.length : Int) = blocks b c
    · rw [if_pos h1] at h
      have := blocks_le b c
      exact ⟨by omega, sumsOk_range b c l 0 h⟩
    · rw [if_neg h1] at h; simp at h
theorem putMan_length (out : List Int) (a b c : Int) (l : List S56) : (putMan out a b c l).length ≤ out.length + 500 := by
  unfold putMan
  by_cases h : manOk a b c l = true
  · rw [if_pos h]
    have h1 := (manOk_in h).1
    have h2 := putSums_length l (putVar (putVar (putVar out a) b) c)
    have h3 := putVar_length (putVar (putVar out a) b) c
    have h4 := putVar_length (putVar out a) b
    have h5 := putVar_length out a
    omega
  · rw [if_neg h]; omega
theorem spec_PutMan_l (a b c : Int) (m : List S56) (hm : m.length ≤ 1000000000000) (hx : ∀ x ∈ m, 0 ≤ x.f1 ∧ x.f1 < 9223372036854775808) (d : Nat) : ∀ (k : Nat) (out : List Int) (i : Nat), i ≤ m.length → m.length - i = d → d + 30 < k → out.length + 9 * d ≤ 140737488350000 →
    spec_PutMan.l0 k out (i : Int) a b c m = some (putSums out (m.drop i)) := by
  induction d with
  | zero =>
    intro k out i hi hd hk ho
    obtain ⟨k, rfl⟩ : ∃ m, k = m + 1 := ⟨k - 1, by omega⟩
    simp only [spec_PutMan.l0]
    rw [if_neg (by omega), List.drop_eq_nil_of_le (by omega)]; rfl
  | succ d ih =>
    intro k out i hi hd hk ho
    obtain ⟨k, rfl⟩ : ∃ m, k = m + 1 := ⟨k - 1, by omega⟩
    have hlt : i < m.length := by omega
    have hr := hx _ (List.getElem_mem hlt)
    have hv := vr_length 8 (m[i]).f1
    simp only [spec_PutMan.l0]
    rw [if_pos (by omega), if_pos (by omega), rd_S hlt, spec_l6PutSum_v (by omega) hr.1 hr.2 (by omega), Option.bind_some, List.drop_eq_getElem_cons hlt, putSums, wnat (by omega)]
    exact ih k _ (i + 1) (by omega) (by omega) (by omega) (by rw [List.length_append]; omega)
theorem spec_PutMan_v {k : Nat} {out : List Int} (ho : out.length ≤ 1000000000000) (a b c : Int) {l : List S56} (hl : l.length ≤ 1000000000000) (hk : l.length + 100 < k) : spec_PutMan.f k out a b c l = some (putMan out a b c l) := by
  unfold spec_PutMan.f putMan
  simp only [Option.bind_some, List.length_nil, List.nil_append]
  rw [if_pos (by omega), spec_ManOk_v a b c (by omega) (by omega), Option.bind_some]
  by_cases h : manOk a b c l = true
  · obtain ⟨h1, h2⟩ := manOk_in h
    have h3 := putVar_length (putVar (putVar out a) b) c
    have h4 := putVar_length (putVar out a) b
    have h5 := putVar_length out a
    rw [if_pos h, if_pos h, spec_PutVar_v (by omega) a (by omega), Option.bind_some, spec_PutVar_v (by omega) b (by omega), Option.bind_some, spec_PutVar_v (by omega) c (by omega), Option.bind_some]
    exact spec_PutMan_l a b c l hl h2 l.length k _ 0 (by omega) (by omega) (by omega) (by omega)
  · rw [if_neg h, if_neg h]
theorem impl_PutMan_l (m : List S56) (hm : m.length ≤ 1000000000000) (hx : ∀ x ∈ m, 0 ≤ x.f1 ∧ x.f1 < 9223372036854775808) (d : Nat) : ∀ (k : Nat) (out : List Int) (i : Nat), i ≤ m.length → m.length - i = d → d + 30 < k → out.length + 9 * d ≤ 140737488350000 →
    impl_PutMan.l0 k out m (m.length : Int) (i : Int) = some (putSums out (m.drop i)) := by
  induction d with
  | zero =>
    intro k out i hi hd hk ho
    obtain ⟨k, rfl⟩ : ∃ m, k = m + 1 := ⟨k - 1, by omega⟩
    simp only [impl_PutMan.l0]
    rw [if_neg (by omega), List.drop_eq_nil_of_le (by omega)]; rfl
  | succ d ih =>
    intro k out i hi hd hk ho
    obtain ⟨k, rfl⟩ : ∃ m, k = m + 1 := ⟨k - 1, by omega⟩
    have hlt : i < m.length := by omega
    have hr := hx _ (List.getElem_mem hlt)
    have hv := vr_length 8 (m[i]).f1
    simp only [impl_PutMan.l0]
    rw [if_pos (by omega), if_pos (by omega), if_pos (by omega), rd_S hlt, impl_appendVar_v (by omega) hr.1 hr.2 (by omega), Option.bind_some, List.drop_eq_getElem_cons hlt, putSums, wnat (by omega)]
    exact ih k _ (i + 1) (by omega) (by omega) (by omega) (by rw [List.length_append]; omega)
theorem impl_PutMan_v {k : Nat} {out : List Int} (ho : out.length ≤ 1000000000000) (a b c : Int) {l : List S56} (hl : l.length ≤ 1000000000000) (hk : l.length + 100 < k) : impl_PutMan.f k out a b c l = some (putMan out a b c l) := by
  unfold impl_PutMan.f putMan
  rw [impl_ManOk_v a b c (by omega) (by omega), Option.bind_some]
  by_cases h : manOk a b c l = true
  · obtain ⟨h1, h2⟩ := manOk_in h
    have h3 := putVar_length (putVar (putVar out a) b) c
    have h4 := putVar_length (putVar out a) b
    have h5 := putVar_length out a
    rw [if_pos h, if_pos h, impl_PutVar_v (by omega) a (by omega), Option.bind_some, impl_PutVar_v (by omega) b (by omega), Option.bind_some, impl_PutVar_v (by omega) c (by omega), Option.bind_some]
    exact impl_PutMan_l l hl h2 l.length k _ 0 (by omega) (by omega) (by omega) (by omega)
  · rw [if_neg h, if_neg h, impl_cloned_v (by omega)]; rfl
theorem spec_l6GetSum_l (l : List Int) (hb : Byt l) (hl : l.length ≤ 140737488351232) (a : Int) (ha0 : 0 ≤ a) (ha1 : a ≤ (l.length : Int)) (d : Nat) : ∀ (k j : Nat) (n : Int), j + d = 8 → 0 ≤ n → n < 128 ^ j → d < k →
    spec_l6GetSum.l0 k l a n (j : Int) = some (rdv l a d j n) := by
  induction d with
  | zero =>
    intro k j n hj hn0 hn hk
    obtain ⟨k, rfl⟩ : ∃ m, k = m + 1 := ⟨k - 1, by omega⟩
    simp only [spec_l6GetSum.l0]
    rw [if_neg (by omega)]
    simp [rdv]
  | succ d ih =>
    intro k j n hj hn0 hn hk
    obtain ⟨k, rfl⟩ : ∃ m, k = m + 1 := ⟨k - 1, by omega⟩
    simp only [spec_l6GetSum.l0]
    rw [if_pos (by omega), w64 (x := (l.length : Int) - j) (by omega) (by omega)]
    by_cases hin : 0 ≤ a ∧ a + (j : Int) < (l.length : Int)
    · have hx := rd_byt hb (a + (j : Int))
      have hs := var_step (j := j) n (rd l (a + (j : Int)) % 128) hn0 hn (by omega) (by omega)
      rw [if_neg (by omega), w64 (x := a + (j : Int)) (by omega) (by omega), if_pos (by omega), if_pos (by omega), w64 (x := 7 * (j : Int)) (by omega) (by omega), if_pos (by omega), w64 (x := rd l (a + (j : Int))) (by omega) (by omega),
        and127 hx.1 hx.2, shl7 (by omega) (by omega) (by omega), orVar (by omega) hn0 hn (by omega) (by omega)]
      rw [rdv, if_pos hin]
      by_cases h128 : rd l (a + (j : Int)) < 128
      · rw [if_pos h128, if_pos h128]
        have e : rd l (a + (j : Int)) % 128 = rd l (a + (j : Int)) := by omega
        rw [e, w64 (x := a + (j : Int) + 1) (by omega) (by omega)]
        by_cases hp : rd l (a + (j : Int)) > 0
        · have hd : decide (j = 0 ∨ 0 < rd l (a + (j : Int))) = true := decide_eq_true (Or.inr (by omega))
          rw [if_pos hp, hd]
        · rw [if_neg hp]
          by_cases hj0 : j = 0
          · subst hj0; simp
          · have hd : decide (j = 0 ∨ 0 < rd l (a + (j : Int))) = false := decide_eq_false (by omega)
            have hd' : (((j : Int)) == 0) = false := beq_eq_false_iff_ne.2 (by omega)
            rw [hd, hd']
      · rw [if_neg h128, if_neg h128]
        have e : rd l (a + (j : Int)) % 128 = rd l (a + (j : Int)) - 128 := by omega
        rw [e] at hs ⊢
        rw [w64 (x := (j : Int) + 1) (by omega) (by omega)]
        exact ih k (j + 1) _ (by omega) hs.1 hs.2 (by omega)
    · rw [if_pos (by omega), rdv, if_neg hin]
theorem spec_l6GetSum_v {k : Nat} {l : List Int} (hb : Byt l) (hl : l.length ≤ 140737488351232) {a : Int} (ha0 : 0 ≤ a) (ha1 : a ≤ (l.length : Int)) (hk : 20 < k) : spec_l6GetSum.f k l a = some (rdv l a 8 0 0) := by
  unfold spec_l6GetSum.f
  exact spec_l6GetSum_l l hb hl a ha0 ha1 8 k 0 0 (by omega) (by omega) (by decide) (by omega)
theorem ite_byt {c : Prop} [Decidable c] {a b : List Int × Bool} (ha : Byt a.1) (hb : Byt b.1) : Byt (if c then a else b).1 := by
  by_cases h : c
  · rw [if_pos h]; exact ha
  · rw [if_neg h]; exact hb
theorem bytesOfS_byt (s : Int) : Byt (bytesOfS s).1 := by
  unfold bytesOfS
  iterate 14 (refine ite_byt (by first | exact byt_nil | exact dg_byt _ _) ?_)
  exact byt_nil
abbrev GM := Int × Int × Int × List S56 × Int × Bool
def noMan : GM := (0, 0, 0, [], 0, false)
def finMan (g s n : Int) : Option (List S56 × Int) → GM
  | none => noMan
  | some (m, p) => if manOk g s n m = true then (g, s, n, m, p, true) else noMan
def getSums (l : List Int) : Nat → Int → List S56 → Option (List S56 × Int)
  | 0, p, acc => some (acc, p)
  | d + 1, p, acc => if (rdv l p 8 0 0).2.2 = true then getSums l d (rdv l p 8 0 0).2.1 (acc ++ [⟨(sumOf (bytesOfS (rdv l p 8 0 0).1).1).1, (rdv l p 8 0 0).1⟩]) else none
def getSumsOk (l : List Int) : Nat → Int → List S56 → Option (List S56 × Int)
  | 0, p, acc => some (acc, p)
  | d + 1, p, acc => if (rdv l p 8 0 0).2.2 = true ∧ (bytesOfS (rdv l p 8 0 0).1).2 = true then getSumsOk l d (rdv l p 8 0 0).2.1 (acc ++ [⟨(sumOf (bytesOfS (rdv l p 8 0 0).1).1).1, (rdv l p 8 0 0).1⟩]) else none
theorem getVar_at {l : List Int} (hb : Byt l) (hl : l.length ≤ 140737488351232) (a : Int) : 0 ≤ (getVar l a).2.1 ∧ (getVar l a).2.1 ≤ (l.length : Int) := by
  by_cases h : (getVar l a).2.2 = true
  · have := getVar_range hb hl a h; omega
  · unfold getVar at h ⊢
    by_cases hc : (rdv l a 6 0 0).2.2 = true ∧ (rdv l a 6 0 0).1 ≤ 1000000000000
    · rw [if_pos hc] at h; exact absurd hc.1 h
    · rw [if_neg hc]; exact ⟨by simp, by simp⟩
theorem getSums_mem (l : List Int) (d : Nat) : ∀ (p : Int) (acc m : List S56) (q : Int), getSums l d p acc = some (m, q) → ∀ x ∈ acc, x ∈ m := by
  induction d with
  | zero =>
    intro p acc m q h x hx
    simp only [getSums, Option.some.injEq, Prod.mk.injEq] at h
    rw [← h.1]; exact hx
  | succ d ih =>
    intro p acc m q h x hx
    rw [getSums] at h
    by_cases hc : (rdv l p 8 0 0).2.2 = true
    · rw [if_pos hc] at h
      exact ih _ _ _ _ h x (List.mem_append_left _ hx)
    · rw [if_neg hc] at h; simp at h
theorem sumsOk_bytes (b c : Int) (l : List S56) : ∀ i, sumsOk b c i l = true → ∀ x ∈ l, (bytesOfS x.f1).2 = true := by
  induction l with
  | nil => intro i _ x hx; simp at hx
  | cons y r ih =>
    intro i h x hx
    rw [sumsOk] at h
    by_cases hy : sumOkAt b c i y
    · rw [if_pos hy] at h
      rcases List.mem_cons.1 hx with rfl | hx
      · exact hy.1
      · exact ih (i + 1) h x hx
    · rw [if_neg hy] at h; simp at h
theorem manOk_facts {a b c : Int} {l : List S56} (h : manOk a b c l = true) : l.length ≤ 40 ∧ (∀ x ∈ l, (bytesOfS x.f1).2 = true) ∧ (a = 0 → b = 0 ∧ c = 0 ∧ l = []) := by
  unfold manOk at h
  by_cases h0 : a = 0
  · rw [if_pos h0] at h
    obtain ⟨h1, h2, rfl⟩ := of_decide_eq_true h
    exact ⟨by simp, fun x hx => by simp at hx, fun _ => ⟨h1, h2, rfl⟩⟩
  · rw [if_neg h0] at h
    by_cases h1 : 1 ≤ a ∧ a ≤ 1000000 ∧ sizeOk b c = true ∧ (l.length : Int) = blocks b c
    · rw [if_pos h1] at h
      have := blocks_le b c
      exact ⟨by omega, sumsOk_bytes b c l 0 h, fun e => absurd e h0⟩
    · rw [if_neg h1] at h; simp at h
theorem getSums_fin (l : List Int) (g s n : Int) (d : Nat) : ∀ (p : Int) (acc : List S56), finMan g s n (getSums l d p acc) = finMan g s n (getSumsOk l d p acc) := by
  induction d with
  | zero => intro p acc; rfl
  | succ d ih =>
    intro p acc
    rw [getSums, getSumsOk]
    by_cases h1 : (rdv l p 8 0 0).2.2 = true
    · by_cases h2 : (bytesOfS (rdv l p 8 0 0).1).2 = true
      · rw [if_pos h1, if_pos ⟨h1, h2⟩]; exact ih _ _
      · rw [if_pos h1, if_neg (fun e => h2 e.2)]
        cases hg : getSums l d (rdv l p 8 0 0).2.1 (acc ++ [⟨(sumOf (bytesOfS (rdv l p 8 0 0).1).1).1, (rdv l p 8 0 0).1⟩]) with
        | none => rfl
        | some r =>
          obtain ⟨m, q⟩ := r
          have hm := getSums_mem l d _ _ _ _ hg _ (List.mem_append_right _ (List.mem_singleton.2 rfl))
          simp only [finMan]
          rw [if_neg (fun h => h2 ((manOk_facts h).2.1 _ hm))]
    · rw [if_neg h1, if_neg (fun e => h1 e.1)]
def getMan (l : List Int) (a : Int) : GM :=
  if (getVar l a).2.2 = true ∧ (getVar l (getVar l a).2.1).2.2 = true ∧ (getVar l (getVar l (getVar l a).2.1).2.1).2.2 = true then
    finMan (getVar l a).1 (getVar l (getVar l a).2.1).1 (getVar l (getVar l (getVar l a).2.1).2.1).1
      (getSumsOk l (blocks (getVar l (getVar l a).2.1).1 (getVar l (getVar l (getVar l a).2.1).2.1).1).toNat (getVar l (getVar l (getVar l a).2.1).2.1).2.1 [])
  else noMan
theorem getMan_len (l : List Int) (a : Int) : (getMan l a).2.2.2.1.length ≤ 40 := by
  unfold getMan
  split
  · cases getSumsOk l (blocks (getVar l (getVar l a).2.1).1 (getVar l (getVar l (getVar l a).2.1).2.1).1).toNat (getVar l (getVar l (getVar l a).2.1).2.1).2.1 [] with
    | none => simp [finMan, noMan]
    | some r =>
      obtain ⟨m, q⟩ := r
      simp only [finMan]
      split
      · rename_i h; exact (manOk_facts h).1
      · simp [noMan]
  · simp [noMan]
theorem blocks_zero : blocks 0 0 = 0 := by unfold blocks sizeOk; simp
theorem spec_GetMan_l {l : List Int} (hb : Byt l) (hl : l.length ≤ 140737488351232) (g s n : Int) (hg : g > 0) (d : Nat) : ∀ (k i : Nat) (p : Int) (acc : List S56), (i : Int) + (d : Int) = blocks s n → acc.length = i → 0 ≤ p → p ≤ (l.length : Int) → 2 * d + 200 < k →
    spec_GetMan.l0 k l g s n p (i : Int) 0 0 0 g s n acc = some (finMan g s n (getSums l d p acc)) := by
  have hB := blocks_le s n
  induction d with
  | zero =>
    intro k i p acc hi ha h0 h1 hk
    obtain ⟨k, rfl⟩ : ∃ m, k = m + 2 := ⟨k - 2, by omega⟩
    simp only [spec_GetMan.l0, spec_GetMan.j2]
    rw [spec_Blocks_v, Option.bind_some, if_neg (by omega), if_neg (by decide), spec_ManOk_v g s n (by omega) (by omega), Option.bind_some]
    simp only [getSums, finMan, noMan]
    split <;> rfl
  | succ d ih =>
    intro k i p acc hi ha h0 h1 hk
    obtain ⟨k, rfl⟩ : ∃ m, k = m + 2 := ⟨k - 2, by omega⟩
    simp only [spec_GetMan.l0, spec_GetMan.j2]
    rw [spec_Blocks_v, Option.bind_some, if_pos (by omega), if_pos (decide_eq_true hg), spec_l6GetSum_v hb hl h0 h1 (by omega), Option.bind_some, getSums]
    by_cases hr : (rdv l p 8 0 0).2.2 = true
    · have hq := rdv_range hb p 8 0 0 (by omega) hr
      rw [if_pos hr, if_pos hr, spec_BytesOf_v _ (by omega), Option.bind_some, spec_SumOf_v (bytesOfS_byt _) (by omega), Option.bind_some, if_pos (by omega), wnat (by omega)]
      exact ih k (i + 1) _ _ (by omega) (by simp [ha]) (by omega) (by omega) (by omega)
    · rw [if_neg hr, if_neg hr]; rfl
theorem spec_GetMan_v {k : Nat} {l : List Int} (hb : Byt l) (hl : l.length ≤ 140737488351232) {a : Int} (ha0 : -9223372036854775808 ≤ a) (ha1 : a ≤ 9223372036854775807) (hk : 400 < k) : spec_GetMan.f k l a = some (getMan l a) := by
  have h1 := getVar_at hb hl a
  have h2 := getVar_at hb hl (getVar l a).2.1
  have h3 := getVar_at hb hl (getVar l (getVar l a).2.1).2.1
  obtain ⟨k, rfl⟩ : ∃ m, k = m + 3 := ⟨k - 3, by omega⟩
  unfold spec_GetMan.f getMan
  rw [spec_GetVar_v hb hl ha0 ha1 (by omega), Option.bind_some, spec_GetVar_v hb hl (by omega) (by omega) (by omega), Option.bind_some, spec_GetVar_v hb hl (by omega) (by omega) (by omega), Option.bind_some]
  have r1 := getVar_range hb hl a
  generalize getVar l a = v1 at *
  generalize getVar l v1.2.1 = v2 at *
  generalize getVar l v2.2.1 = v3 at *
  by_cases c1 : v1.2.2 = true
  · by_cases c2 : v2.2.2 = true
    · by_cases c3 : v3.2.2 = true
      · rw [if_pos c1, if_pos c2, if_pos ⟨c1, c2, c3⟩]
        simp only [spec_GetMan.j0]
        rw [if_neg (by simp [c3])]
        have hB := blocks_le v2.1 v3.1
        by_cases hg : v1.1 > 0
        · have h := spec_GetMan_l hb hl v1.1 v2.1 v3.1 hg (blocks v2.1 v3.1).toNat (k + 2) 0 v3.2.1 [] (by omega) rfl h3.1 h3.2 (by omega)
          rw [show ((0 : Nat) : Int) = 0 from rfl] at h
          rw [h, getSums_fin]
        · have hz : v1.1 = 0 := by have := r1 c1; omega
          simp only [spec_GetMan.l0, spec_GetMan.j2]
          rw [spec_Blocks_v, Option.bind_some, decide_eq_false hg, ite_self, if_neg (by decide), spec_ManOk_v v1.1 v2.1 v3.1 (by simp) (by simp; omega), Option.bind_some]
          by_cases hm : manOk v1.1 v2.1 v3.1 [] = true
          · obtain ⟨e1, e2, _⟩ := (manOk_facts hm).2.2 hz
            rw [if_pos hm, e1, e2, blocks_zero]
            simp only [Int.toNat_zero, getSumsOk, finMan]
            rw [e1, e2] at hm
            rw [if_pos hm]
          · rw [if_neg hm]
            have hno : ∀ m, ¬ manOk v1.1 v2.1 v3.1 m = true := by
              intro m h
              obtain ⟨e1, e2, e3⟩ := (manOk_facts h).2.2 hz
              rw [e3] at h; exact hm h
            cases getSumsOk l (blocks v2.1 v3.1).toNat v3.2.1 [] with
            | none => rfl
            | some r => obtain ⟨m, q⟩ := r; simp only [finMan]; rw [if_neg (hno m)]; rfl
      · rw [if_pos c1, if_pos c2, if_neg (fun e => c3 e.2.2)]
        simp only [spec_GetMan.j0]
        rw [if_pos (by simp [c3])]; rfl
    · rw [if_pos c1, if_neg c2, if_neg (fun e => c2 e.2.1)]
      simp only [spec_GetMan.j0, if_true]; rfl
  · rw [if_neg c1, if_neg (fun e => c1 e.1)]
    simp only [spec_GetMan.j0, if_true]; rfl
theorem impl_readVars_v {k : Nat} {l : List Int} (hb : Byt l) (hl : l.length ≤ 140737488351232) {a : Int} (ha0 : -9223372036854775808 ≤ a) (ha1 : a ≤ 9223372036854775807) (hk : 100 < k) :
    impl_readVars.f k l a 3 = some (if (getVar l a).2.2 = true ∧ (getVar l (getVar l a).2.1).2.2 = true ∧ (getVar l (getVar l (getVar l a).2.1).2.1).2.2 = true then
      ([(getVar l a).1, (getVar l (getVar l a).2.1).1, (getVar l (getVar l (getVar l a).2.1).2.1).1], (getVar l (getVar l (getVar l a).2.1).2.1).2.1, true) else ([], 0, false)) := by
  have h1 := getVar_at hb hl a
  have h2 := getVar_at hb hl (getVar l a).2.1
  obtain ⟨k, rfl⟩ : ∃ m, k = m + 4 := ⟨k - 4, by omega⟩
  unfold impl_readVars.f
  simp only [impl_readVars.l0]
  rw [impl_GetVar_v hb hl ha0 ha1 (by omega), Option.bind_some, impl_GetVar_v hb hl (by omega) (by omega) (by omega), Option.bind_some, impl_GetVar_v hb hl (by omega) (by omega) (by omega), Option.bind_some]
  generalize getVar l a = v1 at *
  generalize getVar l v1.2.1 = v2 at *
  generalize getVar l v2.2.1 = v3 at *
  rw [show wrap64 ((0 : Int) + 1) = 1 from w64 (by omega) (by omega), show wrap64 ((1 : Int) + 1) = 2 from w64 (by omega) (by omega), show wrap64 ((2 : Int) + 1) = 3 from w64 (by omega) (by omega)]
  by_cases c1 : v1.2.2 = true
  · by_cases c2 : v2.2.2 = true
    · by_cases c3 : v3.2.2 = true
      · simp [c1, c2, c3]
      · simp [c1, c2, c3]
    · simp [c1, c2]
  · simp [c1]
theorem impl_GetMan_l {l : List Int} (hb : Byt l) (hl : l.length ≤ 140737488351232) (g s n B : Int) (hB : 0 ≤ B ∧ B ≤ 40) (d : Nat) : ∀ (k i : Nat) (p : Int) (acc : List S56), (i : Int) + (d : Int) = B → acc.length = i → 0 ≤ p → p ≤ (l.length : Int) → d + 200 < k →
    impl_GetMan.l0 k l p B (i : Int) g s n acc = some (finMan g s n (getSumsOk l d p acc)) := by
  induction d with
  | zero =>
    intro k i p acc hi ha h0 h1 hk
    obtain ⟨k, rfl⟩ : ∃ m, k = m + 1 := ⟨k - 1, by omega⟩
    simp only [impl_GetMan.l0]
    rw [if_neg (by omega), impl_ManOk_v g s n (by omega) (by omega), Option.bind_some]
    simp only [getSumsOk, finMan, noMan]
    split <;> rfl
  | succ d ih =>
    intro k i p acc hi ha h0 h1 hk
    obtain ⟨k, rfl⟩ : ∃ m, k = m + 1 := ⟨k - 1, by omega⟩
    simp only [impl_GetMan.l0]
    have h8 := impl_readVar_v (k := k) hb hl (a := p) (by omega) (by omega) (by omega : 8 ≤ 8) (by omega)
    rw [show ((8 : Nat) : Int) = 8 from rfl] at h8
    rw [if_pos (by omega), h8, Option.bind_some, impl_BytesOf_v _ (by omega), Option.bind_some, getSumsOk]
    by_cases hr : (rdv l p 8 0 0).2.2 = true
    · have hq := rdv_range hb p 8 0 0 (by omega) hr
      by_cases hs : (bytesOfS (rdv l p 8 0 0).1).2 = true
      · obtain ⟨e1, e2⟩ := bytesOfS_sum hs
        have e3 : (sumOf (bytesOfS (rdv l p 8 0 0).1).1).2 = (rdv l p 8 0 0).1 := by unfold sumOf; rw [if_pos (bytesOfS_length _)]; exact e1
        rw [if_pos hr, if_pos hs, if_pos ⟨hr, hs⟩, impl_SumOf_v e2 (by omega), Option.bind_some, if_pos (by omega), wnat (by omega), e3]
        exact ih k (i + 1) _ _ (by omega) (by simp [ha]) (by omega) (by omega) (by omega)
      · rw [if_pos hr, if_neg hs, if_neg (fun e => hs e.2)]; rfl
    · rw [if_neg hr, if_neg (fun e => hr e.1)]; rfl
theorem impl_GetMan_v {k : Nat} {l : List Int} (hb : Byt l) (hl : l.length ≤ 140737488351232) {a : Int} (ha0 : -9223372036854775808 ≤ a) (ha1 : a ≤ 9223372036854775807) (hk : 400 < k) : impl_GetMan.f k l a = some (getMan l a) := by
  have h3 := getVar_at hb hl (getVar l (getVar l a).2.1).2.1
  unfold impl_GetMan.f getMan
  rw [impl_readVars_v hb hl ha0 ha1 (by omega), Option.bind_some]
  generalize getVar l a = v1 at *
  generalize getVar l v1.2.1 = v2 at *
  generalize getVar l v2.2.1 = v3 at *
  by_cases hc : v1.2.2 = true ∧ v2.2.2 = true ∧ v3.2.2 = true
  · rw [if_pos hc, if_pos hc]
    have hB := blocks_le v2.1 v3.1
    have h := impl_GetMan_l hb hl v1.1 v2.1 v3.1 (blocks v2.1 v3.1) hB (blocks v2.1 v3.1).toNat k 0 v3.2.1 [] (by omega) rfl h3.1 h3.2 (by omega)
    rw [show ((0 : Nat) : Int) = 0 from rfl] at h
    have r0 : rd [v1.1, v2.1, v3.1] 0 = v1.1 := rfl
    have r1 : rd [v1.1, v2.1, v3.1] 1 = v2.1 := rfl
    have r2 : rd [v1.1, v2.1, v3.1] 2 = v3.1 := rfl
    dsimp only
    rw [if_pos rfl, if_pos (by simp), if_pos (by simp), if_pos (by simp), r0, r1, r2, impl_Blocks_v, Option.bind_some, h]
  · rw [if_neg hc, if_neg hc]; simp [noMan]
theorem spec_l6Image_x {k : Nat} {b : List Int} {i : Int} (hc : Cur b i) (h : Int) (hk : 2000 < k) : ∃ r i' h', spec_l6Image.f k b i h = some (r, i', h') ∧ Byt r ∧ r.length ≤ 16 ∧ Cur b i' := by
  unfold spec_l6Image.f
  obtain ⟨r, i', h', e, rb, rl, c⟩ := spec_l3Bytes_x (k := k) hc h (by omega : (0 : Int) ≤ 16) (by omega) hk
  rw [e, Option.bind_some]
  exact ⟨_, _, _, rfl, rb, by first | omega | (dsimp only; omega), c⟩
theorem vr_byt (f : Nat) : ∀ n : Int, 0 ≤ n → n < 128 ^ (f + 1) → Byt (vr f n) := by
  induction f with
  | zero =>
    intro n h0 h1 x hx
    simp only [vr, List.mem_singleton] at hx
    subst hx
    exact ⟨h0, by have : (128 : Int) ^ (0 + 1) = 128 := by decide
                  omega⟩
  | succ f ih =>
    intro n h0 h1 x hx
    rw [vr] at hx
    rw [Int.pow_succ] at h1
    by_cases h : n < 128
    · rw [if_pos h, List.mem_singleton] at hx
      subst hx; exact ⟨h0, by omega⟩
    · rw [if_neg h] at hx
      rcases List.mem_cons.1 hx with rfl | hx
      · exact ⟨by omega, by omega⟩
      · exact ih (n / 128) (by omega) (by omega) x hx
theorem putVar_byt {l : List Int} (h : Byt l) (n : Int) : Byt (putVar l n) := by
  unfold putVar
  by_cases hn : 0 ≤ n ∧ n ≤ 1000000000000
  · rw [if_pos hn]; exact byt_append h (vr_byt 8 n hn.1 (by omega))
  · rw [if_neg hn]; exact h
theorem split_mul (r q P : Int) : r * P + q * (P * 128) = (r + 128 * q) * P := by
  rw [Int.add_mul, Int.mul_comm P 128, ← Int.mul_assoc, Int.mul_comm q 128]
theorem rdv_canon {l : List Int} (hb : Byt l) (a : Nat) (d : Nat) : ∀ (f j : Nat) (acc : Int), d ≤ f + 1 → (rdv l (a : Int) d j acc).2.2 = true →
    ∃ y : Int, 0 ≤ y ∧ (j = 0 ∨ 0 < y) ∧ (rdv l (a : Int) d j acc).1 = acc + y * 128 ^ j ∧ (rdv l (a : Int) d j acc).2.1 = (a : Int) + (j : Int) + ((vr f y).length : Int) ∧ l.drop (a + j) = vr f y ++ l.drop (a + j + (vr f y).length) := by
  induction d with
  | zero => intro f j acc hf h; simp [rdv] at h
  | succ d ih =>
    intro f j acc hf h
    rw [rdv] at h ⊢
    by_cases hin : 0 ≤ (a : Int) ∧ (a : Int) + (j : Int) < (l.length : Int)
    · rw [if_pos hin] at h ⊢
      have hx := rd_byt hb ((a : Int) + (j : Int))
      have hlt : a + j < l.length := by omega
      have hdr := List.drop_eq_getElem_cons hlt
      have hrd : rd l ((a : Int) + (j : Int)) = l[a + j] := by rw [show (a : Int) + (j : Int) = ((a + j : Nat) : Int) from by omega, rd_at hlt]
      by_cases h128 : rd l ((a : Int) + (j : Int)) < 128
      · rw [if_pos h128] at h ⊢
        have hc := of_decide_eq_true h
        have hv : vr f (rd l ((a : Int) + (j : Int))) = [rd l ((a : Int) + (j : Int))] := by
          cases f with
          | zero => rfl
          | succ f => rw [vr, if_pos h128]
        refine ⟨rd l ((a : Int) + (j : Int)), hx.1, hc, rfl, ?_, ?_⟩
        · rw [hv]; rfl
        · rw [hv, hdr, hrd]; rfl
      · rw [if_neg h128] at h ⊢
        obtain ⟨f, rfl⟩ : ∃ m, f = m + 1 := by
          rcases f with _ | f
          · have hd0 : d = 0 := by omega
            subst hd0; simp [rdv] at h
          · exact ⟨f, rfl⟩
        obtain ⟨y, y0, y1, y2, y3, y4⟩ := ih f (j + 1) (acc + (rd l ((a : Int) + (j : Int)) - 128) * 128 ^ j) (by omega) h
        have hy : 0 < y := by rcases y1 with e | e; · omega
                              · exact e
        have hv : vr (f + 1) (rd l ((a : Int) + (j : Int)) - 128 + 128 * y) = rd l ((a : Int) + (j : Int)) :: vr f y := by
          rw [vr, if_neg (by omega), show (rd l ((a : Int) + (j : Int)) - 128 + 128 * y) % 128 + 128 = rd l ((a : Int) + (j : Int)) from by omega, show (rd l ((a : Int) + (j : Int)) - 128 + 128 * y) / 128 = y from by omega]
        refine ⟨rd l ((a : Int) + (j : Int)) - 128 + 128 * y, by omega, Or.inr (by omega), ?_, ?_, ?_⟩
        · rw [y2, Int.pow_succ, Int.add_assoc, split_mul]
        · rw [y3, hv, List.length_cons]; push_cast; omega
        · rw [hv, List.length_cons, hdr, hrd, show a + j + ((vr f y).length + 1) = a + (j + 1) + (vr f y).length from by omega]
          exact congrArg _ y4
    · rw [if_neg hin] at h; simp at h
theorem getVar_canon {l : List Int} (hb : Byt l) (hl : l.length ≤ 140737488351232) {a : Int} (h : (getVar l a).2.2 = true) : 0 ≤ a ∧ a ≤ (l.length : Int) ∧ putVar (l.take a.toNat) (getVar l a).1 = l.take (getVar l a).2.1.toNat := by
  have hr := getVar_range hb hl a h
  unfold getVar at h hr ⊢
  by_cases hc : (rdv l a 6 0 0).2.2 = true ∧ (rdv l a 6 0 0).1 ≤ 1000000000000
  · rw [if_pos hc] at h hr ⊢
    obtain ⟨g0, g1, g2, g3⟩ := rdv_range hb a 6 0 0 (by omega) hc.1
    obtain ⟨m, rfl⟩ := Int.eq_ofNat_of_zero_le g1
    obtain ⟨y, y0, _, y2, y3, y4⟩ := rdv_canon hb m 6 8 0 0 (by omega) hc.1
    have e : (0 : Int) + y * 128 ^ 0 = y := by simp
    rw [e] at y2
    refine ⟨g1, by omega, ?_⟩
    unfold putVar
    rw [if_pos ⟨hr.1, hr.2.1⟩, y2, y3, Int.toNat_natCast]
    simp only [Nat.add_zero] at y4
    rw [show ((m : Int) + ((0 : Nat) : Int) + ((vr 8 y).length : Int)).toNat = m + (vr 8 y).length from by omega, List.take_add, y4, List.take_left']
    rfl
  · rw [if_neg hc] at h; simp at h
theorem getSumsOk_canon {l : List Int} (hb : Byt l) (d : Nat) : ∀ (p : Int) (acc m : List S56) (q : Int), 0 ≤ p → p ≤ (l.length : Int) → getSumsOk l d p acc = some (m, q) →
    ∃ t, m = acc ++ t ∧ 0 ≤ q ∧ q ≤ (l.length : Int) ∧ putSums (l.take p.toNat) t = l.take q.toNat := by
  induction d with
  | zero =>
    intro p acc m q h0 h1 h
    simp only [getSumsOk, Option.some.injEq, Prod.mk.injEq] at h
    obtain ⟨rfl, rfl⟩ := h
    exact ⟨[], by simp, h0, h1, rfl⟩
  | succ d ih =>
    intro p acc m q h0 h1 h
    rw [getSumsOk] at h
    by_cases hc : (rdv l p 8 0 0).2.2 = true ∧ (bytesOfS (rdv l p 8 0 0).1).2 = true
    · rw [if_pos hc] at h
      obtain ⟨w, rfl⟩ := Int.eq_ofNat_of_zero_le h0
      have hr := rdv_range hb (w : Int) 8 0 0 (by omega) hc.1
      obtain ⟨y, y0, _, y2, y3, y4⟩ := rdv_canon hb w 8 8 0 0 (by omega) hc.1
      have e : (0 : Int) + y * 128 ^ 0 = y := by simp
      rw [e] at y2
      obtain ⟨t, t0, t1, t2, t3⟩ := ih _ _ _ _ (by omega) hr.2.2.2 h
      refine ⟨_ :: t, by rw [t0, List.append_assoc]; rfl, t1, t2, ?_⟩
      rw [putSums]
      dsimp only
      rw [y3, show ((w : Int) + ((0 : Nat) : Int) + ((vr 8 y).length : Int)).toNat = w + (vr 8 y).length from by omega] at t3
      simp only [Nat.add_zero] at y4
      rw [y2, Int.toNat_natCast, ← t3, List.take_add, y4, List.take_left']
      rfl
    · rw [if_neg hc] at h; simp at h
theorem putMan_get {l : List Int} (hb : Byt l) (hl : l.length ≤ 140737488351232) {a : Int} (h : (getMan l a).2.2.2.2.2 = true) :
    0 ≤ a ∧ a ≤ (l.length : Int) ∧ 0 ≤ (getMan l a).2.2.2.2.1 ∧ (getMan l a).2.2.2.2.1 ≤ (l.length : Int) ∧ manOk (getMan l a).1 (getMan l a).2.1 (getMan l a).2.2.1 (getMan l a).2.2.2.1 = true ∧
    putMan (l.take a.toNat) (getMan l a).1 (getMan l a).2.1 (getMan l a).2.2.1 (getMan l a).2.2.2.1 = l.take (getMan l a).2.2.2.2.1.toNat := by
  unfold getMan at h ⊢
  by_cases hc : (getVar l a).2.2 = true ∧ (getVar l (getVar l a).2.1).2.2 = true ∧ (getVar l (getVar l (getVar l a).2.1).2.1).2.2 = true
  · rw [if_pos hc] at h ⊢
    obtain ⟨a0, a1, a2⟩ := getVar_canon hb hl hc.1
    obtain ⟨b0, b1, b2⟩ := getVar_canon hb hl hc.2.1
    obtain ⟨c0, c1, c2⟩ := getVar_canon hb hl hc.2.2
    have c3 := getVar_range hb hl _ hc.2.2
    generalize getVar l a = v1 at *
    generalize getVar l v1.2.1 = v2 at *
    generalize getVar l v2.2.1 = v3 at *
    cases hg : getSumsOk l (blocks v2.1 v3.1).toNat v3.2.1 [] with
    | none => rw [hg] at h; simp [finMan, noMan] at h
    | some r =>
      obtain ⟨m, q⟩ := r
      obtain ⟨t, t0, t1, t2, t3⟩ := getSumsOk_canon hb _ _ _ _ _ (by omega) c3.2.2.2 hg
      rw [List.nil_append] at t0
      subst t0
      rw [hg] at h
      simp only [finMan] at h ⊢
      by_cases hm : manOk v1.1 v2.1 v3.1 m = true
      · rw [if_pos hm]
        dsimp only
        refine ⟨a0, a1, t1, t2, hm, ?_⟩
        unfold putMan
        rw [if_pos hm, a2, b2, c2, t3]
      · rw [if_neg hm] at h; simp [noMan] at h
  · rw [if_neg hc] at h; simp [noMan] at h
theorem putSums_byt (l : List S56) : ∀ acc, Byt acc → (∀ x ∈ l, 0 ≤ x.f1 ∧ x.f1 < 9223372036854775808) → Byt (putSums acc l) := by
  induction l with
  | nil => intro acc h _; exact h
  | cons x r ih =>
    intro acc h hx
    have h0 := hx x (by simp)
    rw [putSums]
    exact ih _ (byt_append h (vr_byt 8 x.f1 h0.1 (by omega))) (fun y hy => hx y (by simp [hy]))
theorem putMan_byt {out : List Int} (h : Byt out) (a b c : Int) (l : List S56) : Byt (putMan out a b c l) := by
  unfold putMan
  by_cases hm : manOk a b c l = true
  · rw [if_pos hm]
    exact putSums_byt l _ (putVar_byt (putVar_byt (putVar_byt h a) b) c) (manOk_in hm).2
  · rw [if_neg hm]; exact h
theorem getMan_no {l : List Int} {a : Int} (h : ¬ (getMan l a).2.2.2.2.2 = true) : getMan l a = noMan := by
  unfold getMan at h ⊢
  by_cases hc : (getVar l a).2.2 = true ∧ (getVar l (getVar l a).2.1).2.2 = true ∧ (getVar l (getVar l (getVar l a).2.1).2.1).2.2 = true
  · rw [if_pos hc] at h ⊢
    cases hg : getSumsOk l (blocks (getVar l (getVar l a).2.1).1 (getVar l (getVar l (getVar l a).2.1).2.1).1).toNat (getVar l (getVar l (getVar l a).2.1).2.1).2.1 [] with
    | none => rfl
    | some r =>
      obtain ⟨m, q⟩ := r
      rw [hg] at h
      simp only [finMan] at h ⊢
      split
      · rename_i hm; rw [if_pos hm] at h; exact absurd rfl h
      · rfl
  · rw [if_neg hc]
theorem manOf_len (g : Int) (l : List Int) (s : Int) : (toSs (manOf g l s).2.2.2).length ≤ 40 := by
  rw [toSs_length]
  unfold manOf
  have h1 := sumsOf_length l s
  have h2 := blocks_le s (l.length : Int)
  split
  · dsimp only; omega
  · simp
theorem manOf_n (g : Int) (l : List Int) (s : Int) : 0 ≤ (manOf g l s).2.2.1 ∧ (manOf g l s).2.2.1 ≤ (l.length : Int) := by
  unfold manOf
  split
  · dsimp only; omega
  · dsimp only; omega
theorem sumOf_w (l : List Int) : 0 ≤ (sumOf l).1 ∧ (sumOf l).1 ≤ 63000 := by
  have := weakOf_range l
  unfold sumOf
  split
  · exact this
  · dsimp only; omega
theorem manOf_w (g : Int) (l : List Int) (s : Int) : ∀ y ∈ toSs (manOf g l s).2.2.2, 0 ≤ y.f0 ∧ y.f0 ≤ 63000 := by
  intro y hy
  unfold manOf at hy
  split at hy
  · simp only [toSs, sumsOf, List.mem_map] at hy
    obtain ⟨p, ⟨j, _, rfl⟩, rfl⟩ := hy
    exact sumOf_w _
  · simp [toSs] at hy
theorem laws_sameMan_v {k : Nat} {a b c a' b' c' : Int} {l l' : List S56} (hl : l.length ≤ 140737488355328) (hk : l.length < k) : laws_sameMan.f k a b c l a' b' c' l' = some (decide ((a, b, c, l) = (a', b', c', l'))) := by
  unfold laws_sameMan.f
  rw [laws_sameSums_v hl hk]
  by_cases h1 : a = a'
  · by_cases h2 : b = b'
    · by_cases h3 : c = c'
      · by_cases h4 : l = l'
        · simp [h1, h2, h3, h4]
        · simp [h1, h2, h3, h4]
      · simp [h1, h2, h3]
    · simp [h1, h2]
  · simp [h1]
theorem spec_l6Draw_x {k : Nat} {b : List Int} {i : Int} (hc : Cur b i) (h : Int) (hk : 2000 < k) : ∃ m0 m1 m2 m3 x i' h', spec_l6Draw.f k b i h = some (m0, m1, m2, m3, x, i', h') ∧ m3.length ≤ 40 ∧ Byt x ∧ x.length ≤ 16 ∧ Cur b i' ∧ 0 ≤ m2 ∧ m2 ≤ 16 ∧ (∀ y ∈ m3, 0 ≤ y.f0 ∧ y.f0 ≤ 63000) := by
  unfold spec_l6Draw.f
  obtain ⟨x, i1, h1, e1, xb, xl, c1⟩ := spec_l6Image_x (k := k) hc h (by omega)
  obtain ⟨r, i2, h2, e2, r0, _, r2, c2⟩ := spec_l1Below_x c1 h1 5
  obtain ⟨t, i3, h3, e3, t0, _, t2, c3⟩ := spec_l1Below_x c2 h2 5
  rw [e1, Option.bind_some, e2, Option.bind_some, e3, Option.bind_some]
  dsimp only
  rw [spec_ManOf_v _ xb (by omega) _ (by omega), Option.bind_some]
  have hn := manOf_n (wrap64 (1 + r)) x (wrap64 (2 + t))
  exact ⟨_, _, _, _, _, _, _, rfl, manOf_len _ _ _, xb, xl, c3, hn.1, by have := hn.2; dsimp only; omega, manOf_w _ _ _⟩
theorem spec_l6Any_x {k : Nat} {b : List Int} {i : Int} (hc : Cur b i) (h : Int) (hk : 2000 < k) : ∃ m0 m1 m2 m3 i' h', spec_l6Any.f k b i h = some (m0, m1, m2, m3, i', h') ∧ m3.length ≤ 41 ∧ Cur b i' := by
  unfold spec_l6Any.f
  obtain ⟨m0, m1, m2, m3, x, i1, h1, e1, ml, xb, xl, c1, _⟩ := spec_l6Draw_x (k := k) hc h (by omega)
  obtain ⟨r, i2, h2, e2, _, _, _, c2⟩ := spec_l1Below_x c1 h1 10
  rw [e1, Option.bind_some, e2, Option.bind_some]
  dsimp only
  by_cases q0 : r = 0
  · obtain ⟨s, i3, h3, e3, _, c3⟩ := spec_l1Int_x c2 h2 (l := [0, (-1), 1000000, 1000001]) (by decide)
    rw [if_pos q0, e3, Option.bind_some]
    exact ⟨_, _, _, _, _, _, rfl, by first | omega | (dsimp only; omega), c3⟩
  · rw [if_neg q0]
    by_cases q1 : r = 1
    · obtain ⟨s, i3, h3, e3, _, c3⟩ := spec_l1Int_x c2 h2 (l := [0, 1, 7]) (by decide)
      rw [if_pos q1, e3, Option.bind_some]
      exact ⟨_, _, _, _, _, _, rfl, by first | omega | (dsimp only; omega), c3⟩
    · rw [if_neg q1]
      by_cases q2 : r = 2
      · rw [if_pos q2]; exact ⟨_, _, _, _, _, _, rfl, by first | omega | (dsimp only; omega), c2⟩
      · rw [if_neg q2]
        by_cases q3 : r = 3
        · rw [if_pos q3, if_pos (by omega)]; exact ⟨_, _, _, _, _, _, rfl, by simp; omega, c2⟩
        · rw [if_neg q3]
          by_cases q4 : r = 4
          · rw [if_pos q4]
            by_cases q5 : (m3.length : Int) > 0
            · rw [if_pos q5, if_pos (by omega)]; exact ⟨_, _, _, _, _, _, rfl, by simp; omega, c2⟩
            · rw [if_neg q5]; exact ⟨_, _, _, _, _, _, rfl, by first | omega | (dsimp only; omega), c2⟩
          · rw [if_neg q4]; exact ⟨_, _, _, _, _, _, rfl, by first | omega | (dsimp only; omega), c2⟩
theorem spec_DrawGetMan_x {k : Nat} {b : List Int} (hb : b.length ≤ 1048576) (hk : 1049000 < k) : ∃ x i, spec_DrawGetMan.f k b = some (x, i) ∧ Byt x ∧ x.length ≤ 600 ∧ -1 ≤ i ∧ i ≤ 99 := by
  unfold spec_DrawGetMan.f
  obtain ⟨h, e⟩ := spec_l1New_x (k := k) hb (by omega)
  obtain ⟨m0, m1, m2, m3, x, i1, h1, e1, ml, xb, xl, c1, _⟩ := spec_l6Draw_x (k := k) (cur_start hb) h (by omega)
  have pb : Byt (putMan [9] m0 m1 m2 m3) := putMan_byt (by intro y hy; simp at hy; omega) _ _ _ _
  have pl := putMan_length [9] m0 m1 m2 m3
  have h9 : ([9] : List Int).length = 1 := rfl
  rw [h9] at pl
  obtain ⟨y, i2, h2, e2, yb, yl, c2⟩ := spec_l1Bent_x c1 h1 pb (by omega)
  obtain ⟨s, i3, h3, e3, hs, c3⟩ := spec_l1Int_x c2 h2 (l := [1, 1, 1, 1, 0, (-1), 99]) (by decide)
  have hs2 : -1 ≤ s ∧ s ≤ 99 := by
    simp only [List.mem_cons, List.not_mem_nil, or_false] at hs
    omega
  rw [e, Option.bind_some, e1, Option.bind_some]
  dsimp only
  rw [spec_PutMan_v (by simp) m0 m1 m2 (by omega) (by omega), Option.bind_some, e2, Option.bind_some, e3, Option.bind_some]
  exact ⟨_, _, rfl, yb, by first | omega | (dsimp only; omega), hs2.1, hs2.2⟩
theorem spec_DrawPutMan_x {k : Nat} {b : List Int} (hb : b.length ≤ 1048576) (hk : 1049000 < k) : ∃ x m0 m1 m2 m3, spec_DrawPutMan.f k b = some (x, m0, m1, m2, m3) ∧ x.length ≤ 2 ∧ m3.length ≤ 41 := by
  unfold spec_DrawPutMan.f
  obtain ⟨h, e⟩ := spec_l1New_x (k := k) hb (by omega)
  obtain ⟨r, i1, h1, e1, r0, _, r2, c1⟩ := spec_l1Below_x (cur_start hb) h 3
  have := r2 (by omega)
  obtain ⟨x, i2, h2, e2, xb, xl, c2⟩ := spec_l1Bytes_x (k := k) c1 h1 (n := r) (by omega) (by omega) (by omega)
  obtain ⟨m0, m1, m2, m3, i3, h3, e3, ml, c3⟩ := spec_l6Any_x (k := k) c2 h2 (by omega)
  rw [e, Option.bind_some, e1, Option.bind_some, e2, Option.bind_some, e3, Option.bind_some]
  exact ⟨_, _, _, _, _, rfl, by first | omega | (dsimp only; omega), by first | omega | (dsimp only; omega)⟩
theorem spec_DrawSameMan_x {k : Nat} {b : List Int} (hb : b.length ≤ 1048576) (hk : 1049000 < k) : ∃ m0 m1 m2 m3 n0 n1 n2 n3, spec_DrawSameMan.f k b = some (m0, m1, m2, m3, n0, n1, n2, n3) ∧ m3.length ≤ 41 ∧ n3.length ≤ 41 := by
  unfold spec_DrawSameMan.f
  obtain ⟨h, e⟩ := spec_l1New_x (k := k) hb (by omega)
  obtain ⟨m0, m1, m2, m3, i1, h1, e1, ml, c1⟩ := spec_l6Any_x (k := k) (cur_start hb) h (by omega)
  obtain ⟨o, i2, h2, e2, c2⟩ := spec_l1Once_x c1 h1 2
  rw [e, Option.bind_some, e1, Option.bind_some, e2, Option.bind_some]
  dsimp only
  by_cases q : o = true
  · unfold spec_l6Copy.f
    rw [if_pos q, Option.bind_some, if_pos (by simp; omega), Option.bind_some]
    exact ⟨_, _, _, _, _, _, _, _, rfl, ml, by simp; omega⟩
  · obtain ⟨n0, n1, n2, n3, i3, h3, e3, nl, c3⟩ := spec_l6Any_x (k := k) c2 h2 (by omega)
    rw [if_neg q, e3, Option.bind_some]
    exact ⟨_, _, _, _, _, _, _, _, rfl, ml, nl⟩
theorem spec_DrawManOk_x {k : Nat} {b : List Int} (hb : b.length ≤ 1048576) (hk : 1049000 < k) : ∃ m0 m1 m2 m3, spec_DrawManOk.f k b = some (m0, m1, m2, m3) ∧ m3.length ≤ 41 := by
  unfold spec_DrawManOk.f
  obtain ⟨h, e⟩ := spec_l1New_x (k := k) hb (by omega)
  obtain ⟨m0, m1, m2, m3, i1, h1, e1, ml, c1⟩ := spec_l6Any_x (k := k) (cur_start hb) h (by omega)
  rw [e, Option.bind_some, e1, Option.bind_some]
  exact ⟨_, _, _, _, rfl, ml⟩
theorem FnMansBent : laws_FnMansBent.Pure := by
  intro l hm hr hw
  refine exists_ge 1050000 _ (fun k hk => ?_)
  unfold laws_FnMansBent.f
  rw [laws_big_v, Option.bind_some]
  by_cases hbig : (l.length : Int) > 1048576
  · rw [if_pos (decide_eq_true hbig)]
  · rw [if_neg (by simpa using hbig)]
    obtain ⟨b, i, e1, bb, bl, i0, i1⟩ := spec_DrawGetMan_x (k := k) (b := l) (by omega) (by omega)
    obtain ⟨p, m0, m1, m2, m3, e2, pl, ml⟩ := spec_DrawPutMan_x (k := k) (b := l) (by omega) (by omega)
    obtain ⟨x0, x1, x2, x3, y0, y1, y2, y3, e3, xl, yl⟩ := spec_DrawSameMan_x (k := k) (b := l) (by omega) (by omega)
    obtain ⟨z0, z1, z2, z3, e4, zl⟩ := spec_DrawManOk_x (k := k) (b := l) (by omega) (by omega)
    have hg := getMan_len b i
    have hp := putMan_length p m0 m1 m2 m3
    rw [e1, Option.bind_some]
    dsimp only
    rw [impl_GetMan_v bb (by omega) (by omega) (by omega) (by omega), Option.bind_some, spec_GetMan_v bb (by omega) (by omega) (by omega) (by omega), Option.bind_some, e2, Option.bind_some, e3, Option.bind_some, e4, Option.bind_some]
    dsimp only
    rw [laws_sameMan_v (by omega) (by omega), Option.bind_some, if_pos (decide_eq_true rfl), if_pos rfl, bne_self_eq_false, if_neg (by decide), impl_PutMan_v (by omega) m0 m1 m2 (by omega) (by omega), Option.bind_some, spec_PutMan_v (by omega) m0 m1 m2 (by omega) (by omega), Option.bind_some,
      laws_same_v (by omega) (by omega), Option.bind_some, if_pos (decide_eq_true rfl), impl_SameMan_v (by omega) (by omega), Option.bind_some, laws_sameMan_v (by omega) (by omega), Option.bind_some, bne_self_eq_false, if_neg (by decide),
      impl_ManOk_v _ _ _ (by omega) (by omega), Option.bind_some, spec_ManOk_v _ _ _ (by omega) (by omega), Option.bind_some, bne_self_eq_false, if_neg (by decide), impl_AllParts_v, Option.bind_some, spec_AllParts_v, Option.bind_some, bne_self_eq_false]
    obtain ⟨k, rfl⟩ : ∃ m, k = m + 1 := ⟨k - 1, by omega⟩
    simp only [laws_FnMansBent.j0]
    rw [if_neg (by decide)]
    by_cases ok : (getMan b i).2.2.2.2.2 = true
    · obtain ⟨a0, a1, a2, a3, a4, a5⟩ := putMan_get bb (by omega) ok
      have ht := putMan_length (b.take i.toNat) (getMan b i).1 (getMan b i).2.1 (getMan b i).2.2.1 (getMan b i).2.2.2.1
      have ht2 : (b.take i.toNat).length ≤ b.length := by simp; omega
      rw [if_pos ok, impl_ManOk_v _ _ _ (by omega) (by omega), Option.bind_some, if_pos a4, if_pos a0, if_pos a1, impl_PutMan_v (by omega) _ _ _ (by omega) (by omega), Option.bind_some, if_pos a2, if_pos a3, laws_same_v (by omega) (by omega), Option.bind_some, a5, decide_eq_true rfl]
    · rw [if_neg ok, laws_sameMan_v (by omega) (by omega), Option.bind_some, getMan_no ok]
      exact congrArg some (decide_eq_true rfl)
end Go.Proofs.Ytdodnhjglpidlaa.Pure
