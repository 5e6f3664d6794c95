/- For all draws: integers and byte strings are decoded from their encodings; no condition. -/
import Derived.Test.YtfmhhjlhaklljaaPFnVarsx5
import Derived.Test.YtfmhhjlhaklljaaLib
set_option linter.unusedVariables false
set_option linter.unusedSimpArgs false
namespace Go.Proofs.Ytfmhhjlhaklljaa.Pure
open Go.RowKit Go.Proofs.Ytfmhhjlhaklljaa.PFnVars Go.Proofs.YtfmhhjlhaklljaaW.PrintWords Go.Proofs.YtfmhhjlhaklljaaW.PrintLast Go.Proofs.YtfmhhjlhaklljaaW.PrintMore Go.Proofs.Ytfmhhjlhaklljaa.Lib

theorem spec_l1In_v (a b c : Int) : spec_l1In.f a b c = some (decide (b ≤ a ∧ a ≤ c)) := by
  unfold spec_l1In.f
  by_cases h : b ≤ a
  · rw [if_pos h]; simp [h]
  · rw [if_neg h]; simp [h]

theorem impl_within_v (a b c : Int) : impl_within.f a b c = some (decide (b ≤ a ∧ a ≤ c)) := by
  unfold impl_within.f
  by_cases h : b ≤ a
  · rw [if_pos h]; simp [h]
  · rw [if_neg h]; simp [h]

theorem spec_GetVar_l (l : List Int) (hb : Byt l) (hl : l.length ≤ 140737488351232) (a : Int) (ha0 : -9223372036854775808 ≤ a) (ha1 : a ≤ 9223372036854775807) (d : Nat) : ∀ (k j : Nat) (n : Int), j + d = 6 → 0 ≤ n → n < 128 ^ j → 2 * d + 1 < k →
    spec_GetVar.l0 k l a n (j : Int) = some (if (rdv l a d j n).2.2 = true ∧ (rdv l a d j n).1 ≤ 1000000000000 then rdv l a d j n else (0, 0, false)) := by
  induction d with
  | zero =>
    intro k j n hj hn0 hn hk
    obtain ⟨k, rfl⟩ : ∃ m, k = m + 1 := ⟨k - 1, by omega⟩
    simp only [spec_GetVar.l0]
    rw [if_neg (by omega)]
    simp [rdv]
  | succ d ih =>
    intro k j n hj hn0 hn hk
    obtain ⟨k, rfl⟩ : ∃ m, k = m + 2 := ⟨k - 2, by omega⟩
    simp only [spec_GetVar.l0]
    rw [if_pos (by omega)]
    by_cases hin : 0 ≤ a ∧ a + (j : Int) < (l.length : Int)
    · have hx := rd_byt hb (a + (j : Int))
      rw [if_neg (by omega), w64 (x := (l.length : Int) - j) (by omega) (by omega), decide_eq_false (by omega)]
      simp only [spec_GetVar.j1]
      have hs := var_step (j := j) n (rd l (a + (j : Int)) % 128) hn0 hn (by omega) (by omega)
      rw [if_neg (by decide), w64 (x := a + (j : Int)) (by omega) (by omega), if_pos (by omega), if_pos (by omega), w64 (x := 7 * (j : Int)) (by omega) (by omega), if_pos (by omega), w64 (x := rd l (a + (j : Int))) (by omega) (by omega),
        and127 hx.1 hx.2, shl7 (by omega) (by omega) (by omega), orVar (by omega) hn0 hn (by omega) (by omega)]
      rw [rdv, if_pos hin]
      by_cases h128 : rd l (a + (j : Int)) < 128
      · rw [if_pos h128, if_pos h128]
        have e : rd l (a + (j : Int)) % 128 = rd l (a + (j : Int)) := by omega
        rw [e] at hs ⊢
        rw [w64 (x := a + (j : Int) + 1) (by omega) (by omega)]
        by_cases h0 : rd l (a + (j : Int)) = 0
        · rw [if_pos h0]
          by_cases hj0 : (j : Int) > 0
          · rw [if_pos hj0, if_neg]
            rintro ⟨h, _⟩
            have := of_decide_eq_true h
            omega
          · rw [if_neg hj0]
            have hd : decide (j = 0 ∨ 0 < rd l (a + (j : Int))) = true := decide_eq_true (Or.inl (by omega))
            simp only [hd, true_and]
            by_cases hg : n + rd l (a + (j : Int)) * 128 ^ j > 1000000000000
            · rw [if_pos hg, if_neg (by omega)]
            · rw [if_neg hg, if_pos (by omega)]
        · rw [if_neg h0]
          have hd : decide (j = 0 ∨ 0 < rd l (a + (j : Int))) = true := decide_eq_true (Or.inr (by omega))
          simp only [hd, true_and]
          by_cases hg : n + rd l (a + (j : Int)) * 128 ^ j > 1000000000000
          · rw [if_pos hg, if_neg (by omega)]
          · rw [if_neg hg, if_pos (by omega)]
      · rw [if_neg h128, if_neg h128]
        have e : rd l (a + (j : Int)) % 128 = rd l (a + (j : Int)) - 128 := by omega
        rw [e] at hs ⊢
        rw [w64 (x := (j : Int) + 1) (by omega) (by omega)]
        exact ih k (j + 1) _ (by omega) hs.1 hs.2 (by omega)
    · rw [rdv, if_neg hin]
      have hr : (if ((0, 0, false) : Int × Int × Bool).2.2 = true ∧ ((0, 0, false) : Int × Int × Bool).1 ≤ 1000000000000 then ((0, 0, false) : Int × Int × Bool) else (0, 0, false)) = (0, 0, false) := by simp
      rw [hr]
      by_cases hneg : a < 0
      · rw [if_pos hneg]; simp [spec_GetVar.j1]
      · rw [if_neg hneg, w64 (x := (l.length : Int) - j) (by omega) (by omega), decide_eq_true (by omega)]; simp [spec_GetVar.j1]
theorem spec_GetVar_v {k : Nat} {l : List Int} (hb : Byt l) (hl : l.length ≤ 140737488351232) {a : Int} (ha0 : -9223372036854775808 ≤ a) (ha1 : a ≤ 9223372036854775807) (hk : 20 < k) : spec_GetVar.f k l a = some (getVar l a) := by
  unfold spec_GetVar.f
  exact spec_GetVar_l l hb hl a ha0 ha1 6 k 0 0 (by omega) (by omega) (by decide) (by omega)

theorem impl_readVar_l (l : List Int) (hb : Byt l) (hl : l.length ≤ 140737488351232) (a : Int) (ha0 : -9223372036854775808 ≤ a) (ha1 : a ≤ 9223372036854775807) (most : Nat) (hm : most ≤ 8) (d : Nat) : ∀ (k j : Nat) (n : Int), j + d = most → 0 ≤ n → n < 128 ^ j → d < k →
    impl_readVar.l0 k l a n (most : Int) (j : Int) = some (rdv l a d j n) := by
  induction d with
  | zero =>
    intro k j n hj hn0 hn hk
    obtain ⟨k, rfl⟩ : ∃ m, k = m + 1 := ⟨k - 1, by omega⟩
    simp only [impl_readVar.l0]
    rw [if_neg (by omega)]
    simp [rdv]
  | succ d ih =>
    intro k j n hj hn0 hn hk
    obtain ⟨k, rfl⟩ : ∃ m, k = m + 1 := ⟨k - 1, by omega⟩
    simp only [impl_readVar.l0]
    rw [if_pos (by omega), impl_within_v, Option.bind_some, w64 (x := (l.length : Int) - 1) (by omega) (by omega), w64 (x := (l.length : Int) - 1 - j) (by omega) (by omega)]
    by_cases hin : 0 ≤ a ∧ a + (j : Int) < (l.length : Int)
    · have hx := rd_byt hb (a + (j : Int))
      have hs := var_step (j := j) n (rd l (a + (j : Int)) % 128) hn0 hn (by omega) (by omega)
      rw [if_pos (decide_eq_true (by omega)), w64 (x := a + (j : Int)) (by omega) (by omega), if_pos (by omega), if_pos (by omega), w64 (x := 7 * (j : Int)) (by omega) (by omega), if_pos (by omega), w64 (x := rd l (a + (j : Int))) (by omega) (by omega),
        and127 hx.1 hx.2, shl7 (by omega) (by omega) (by omega), orVar (by omega) hn0 hn (by omega) (by omega)]
      rw [rdv, if_pos hin]
      by_cases h128 : rd l (a + (j : Int)) < 128
      · rw [if_pos h128, if_pos h128]
        have e : rd l (a + (j : Int)) % 128 = rd l (a + (j : Int)) := by omega
        rw [e, w64 (x := a + (j : Int) + 1) (by omega) (by omega)]
        by_cases hj0 : (j : Int) = 0
        · rw [if_pos hj0]
          have hd : decide (j = 0 ∨ 0 < rd l (a + (j : Int))) = true := decide_eq_true (Or.inl (by omega))
          rw [hd]
        · rw [if_neg hj0]
          have hj1 : ¬ j = 0 := by omega
          simp [hj1]
      · rw [if_neg h128, if_neg h128]
        have e : rd l (a + (j : Int)) % 128 = rd l (a + (j : Int)) - 128 := by omega
        rw [e] at hs ⊢
        rw [w64 (x := (j : Int) + 1) (by omega) (by omega)]
        exact ih k (j + 1) _ (by omega) hs.1 hs.2 (by omega)
    · rw [if_neg (by simp; omega), rdv, if_neg hin]
theorem impl_readVar_v {k : Nat} {l : List Int} (hb : Byt l) (hl : l.length ≤ 140737488351232) {a : Int} (ha0 : -9223372036854775808 ≤ a) (ha1 : a ≤ 9223372036854775807) {most : Nat} (hm : most ≤ 8) (hk : 20 < k) : impl_readVar.f k l a (most : Int) = some (rdv l a most 0 0) := by
  unfold impl_readVar.f
  exact impl_readVar_l l hb hl a ha0 ha1 most hm most k 0 0 (by omega) (by omega) (by decide) (by omega)

theorem impl_GetVar_v {k : Nat} {l : List Int} (hb : Byt l) (hl : l.length ≤ 140737488351232) {a : Int} (ha0 : -9223372036854775808 ≤ a) (ha1 : a ≤ 9223372036854775807) (hk : 20 < k) : impl_GetVar.f k l a = some (getVar l a) := by
  unfold impl_GetVar.f getVar
  have h := impl_readVar_v hb hl ha0 ha1 (by omega : 6 ≤ 8) hk
  rw [show ((6 : Nat) : Int) = 6 from rfl] at h
  rw [h, Option.bind_some]
  generalize rdv l a 6 0 0 = r
  by_cases h1 : r.2.2 = true
  · rw [if_pos h1]
    by_cases h2 : r.1 > 1000000000000
    · rw [if_pos h2, if_neg (by omega)]
    · rw [if_neg h2, if_pos ⟨h1, by omega⟩, ← h1]
  · rw [if_neg h1, if_neg (fun h => h1 h.1)]

theorem impl_cloned_v {l : List Int} (hl : l.length ≤ 140737488351232) : impl_cloned.f l = some l := by
  unfold impl_cloned.f
  rw [if_pos (by omega), if_pos (by omega)]
  simp only [List.replicate_zero, Option.bind_some, List.nil_append, List.length_nil]
  rw [if_pos (by omega)]

theorem impl_Slice_v {l : List Int} (hl : l.length ≤ 140737488351232) (a n : Int) : impl_Slice.f l a n = some (sliceB l a n) := by
  unfold impl_Slice.f sliceB
  rw [impl_within_v, Option.bind_some]
  by_cases h0 : 0 ≤ a ∧ a ≤ (l.length : Int)
  · rw [decide_eq_true h0, if_pos rfl, impl_within_v, Option.bind_some, w64 (x := (l.length : Int) - a) (by omega) (by omega)]
    by_cases h1 : 0 ≤ n ∧ n ≤ (l.length : Int) - a
    · rw [decide_eq_true h1, if_pos rfl, w64 (x := a + n) (by omega) (by omega), if_pos (by omega), if_pos (by omega), if_pos (by omega), impl_cloned_v (by simp; omega), if_pos ⟨by omega, by omega, by omega, by omega⟩]
      rfl
    · rw [decide_eq_false h1, if_neg (by decide), if_neg (by omega)]
  · rw [decide_eq_false h0, if_neg (by decide), if_neg (by omega)]

theorem spec_PutVar_l (f : Nat) : ∀ (k : Nat) (n : Int) (b : List Int), f ≤ 8 → 0 ≤ n → n < 128 ^ (f + 1) → b.length ≤ 140737488355000 - f → f < k → spec_PutVar.l0 k n b = some (b ++ vr f n) := by
  induction f with
  | zero =>
    intro k n b hf h0 h1 hb hk
    obtain ⟨k, rfl⟩ : ∃ m, k = m + 1 := ⟨k - 1, by omega⟩
    simp only [spec_PutVar.l0]
    rw [if_neg (by omega), if_pos (by omega), vr]
    rw [Int.emod_eq_of_lt (by omega) (by omega)]
  | succ f ih =>
    intro k n b hf h0 h1 hb hk
    obtain ⟨k, rfl⟩ : ∃ m, k = m + 1 := ⟨k - 1, by omega⟩
    simp only [spec_PutVar.l0]
    have hn : n < 9223372036854775808 := by
      have : (128 : Int) ^ (f + 1 + 1) ≤ 128 ^ 9 := pow128_le (by omega)
      omega
    rw [Int.pow_succ] at h1
    rw [vr]
    by_cases h : n < 128
    · rw [if_neg (by omega), if_pos (by omega), if_pos h, Int.emod_eq_of_lt (by omega) (by omega)]
    · rw [if_pos (by omega), if_pos (by omega), if_neg h, and127n h0 hn, or128 (by omega) (by omega), ih k _ _ (by omega) (by omega) (by omega) (by simp; omega) (by omega)]
      rw [Int.emod_eq_of_lt (by omega) (by omega)]
      simp
theorem spec_PutVar_v {k : Nat} {l : List Int} (hl : l.length ≤ 140737488351232) (n : Int) (hk : 20 < k) : spec_PutVar.f k l n = some (putVar l n) := by
  unfold spec_PutVar.f putVar
  simp only [Option.bind_some, List.length_nil, List.nil_append, spec_l1In_v]
  rw [if_pos (by omega)]
  by_cases h : 0 ≤ n ∧ n ≤ 1000000000000
  · rw [decide_eq_true h, if_pos rfl, if_pos h, spec_PutVar_l 8 k n l (by omega) h.1 (by omega) (by omega) (by omega)]
  · rw [decide_eq_false h, if_neg (by decide), if_neg h]

theorem impl_appendVar_l (f : Nat) : ∀ (k : Nat) (n : Int) (b : List Int), f ≤ 8 → 0 ≤ n → n < 128 ^ (f + 1) → b.length ≤ 140737488355000 - f → f < k → impl_appendVar.l0 k b n = some (b ++ vr f n) := by
  induction f with
  | zero =>
    intro k n b hf h0 h1 hb hk
    obtain ⟨k, rfl⟩ : ∃ m, k = m + 1 := ⟨k - 1, by omega⟩
    simp only [impl_appendVar.l0]
    rw [if_neg (by omega), if_pos (by omega), vr]
    rw [Int.emod_eq_of_lt (by omega) (by omega)]
  | succ f ih =>
    intro k n b hf h0 h1 hb hk
    obtain ⟨k, rfl⟩ : ∃ m, k = m + 1 := ⟨k - 1, by omega⟩
    simp only [impl_appendVar.l0]
    rw [Int.pow_succ] at h1
    rw [vr]
    by_cases h : n < 128
    · rw [if_neg (by omega), if_pos (by omega), if_pos h, Int.emod_eq_of_lt (by omega) (by omega)]
    · rw [if_pos (by omega), if_pos (by omega), if_neg h, or128u (by omega) (by omega), ih k _ _ (by omega) (by omega) (by omega) (by simp; omega) (by omega)]
      rw [show n % 256 % 128 = n % 128 from by omega]
      simp
theorem impl_appendVar_v {k : Nat} {l : List Int} (hl : l.length ≤ 140737488352000) {n : Int} (h0 : 0 ≤ n) (h1 : n < 9223372036854775808) (hk : 20 < k) : impl_appendVar.f k l n = some (l ++ vr 8 n) := by
  unfold impl_appendVar.f
  exact impl_appendVar_l 8 k n l (by omega) h0 (by omega) (by omega) (by omega)

theorem impl_PutVar_v {k : Nat} {l : List Int} (hl : l.length ≤ 140737488351232) (n : Int) (hk : 20 < k) : impl_PutVar.f k l n = some (putVar l n) := by
  unfold impl_PutVar.f putVar
  rw [impl_cloned_v hl, Option.bind_some, impl_within_v, Option.bind_some]
  by_cases h : 0 ≤ n ∧ n ≤ 1000000000000
  · rw [decide_eq_true h, if_pos rfl, if_pos h, impl_appendVar_v (by omega) h.1 (by omega) hk]; rfl
  · rw [decide_eq_false h, if_neg (by decide), if_neg h]

theorem spec_PutPart_v {k : Nat} {l s : List Int} (hl : l.length ≤ 1000000000000) (hs : s.length ≤ 1000000000000) (hk : 20 < k) : spec_PutPart.f k l s = some (putPart l s) := by
  unfold spec_PutPart.f putPart
  have h := putVar_length l (s.length : Int)
  rw [spec_PutVar_v (by omega) _ hk, Option.bind_some, if_pos (by omega)]

theorem impl_PutPart_v {k : Nat} {l s : List Int} (hl : l.length ≤ 1000000000000) (hs : s.length ≤ 1000000000000) (hk : 20 < k) : impl_PutPart.f k l s = some (putPart l s) := by
  unfold impl_PutPart.f putPart
  have h := putVar_length l (s.length : Int)
  rw [impl_PutVar_v (by omega) _ hk, Option.bind_some, if_pos (by omega)]

theorem spec_GetPart_v {k : Nat} {l : List Int} (hb : Byt l) (hl : l.length ≤ 140737488351232) {a : Int} (ha0 : -9223372036854775808 ≤ a) (ha1 : a ≤ 9223372036854775807) (m : Int) (hk : 20 < k) : spec_GetPart.f k l a m = some (getPart l a m) := by
  unfold spec_GetPart.f getPart
  rw [spec_GetVar_v hb hl ha0 ha1 hk, Option.bind_some]
  have hg := getVar_range hb hl a
  generalize getVar l a = r at hg ⊢
  by_cases h1 : r.2.2 = true
  · obtain ⟨g0, g1, g2, g3⟩ := hg h1
    rw [if_pos h1]
    by_cases h2 : r.1 > m
    · rw [if_pos h2, if_neg (by omega)]
    · rw [if_neg h2, w64 (x := (l.length : Int) - r.2.1) (by omega) (by omega)]
      by_cases h3 : r.1 > (l.length : Int) - r.2.1
      · rw [if_pos h3, if_neg (by omega)]
      · rw [if_neg h3, w64 (x := r.2.1 + r.1) (by omega) (by omega)]
        simp only [Option.bind_some, List.length_nil, List.nil_append]
        rw [if_pos (by omega), if_pos (by omega), if_pos (by omega), if_pos (by simp; omega), if_pos ⟨h1, by omega, by omega⟩]
  · rw [if_neg h1, if_neg (fun h => h1 h.1)]

theorem impl_GetPart_v {k : Nat} {l : List Int} (hb : Byt l) (hl : l.length ≤ 140737488351232) {a : Int} (ha0 : -9223372036854775808 ≤ a) (ha1 : a ≤ 9223372036854775807) (m : Int) (hk : 20 < k) : impl_GetPart.f k l a m = some (getPart l a m) := by
  unfold impl_GetPart.f getPart
  rw [impl_GetVar_v hb hl ha0 ha1 hk, Option.bind_some]
  have hg := getVar_range hb hl a
  generalize getVar l a = r at hg ⊢
  obtain ⟨k, rfl⟩ : ∃ m, k = m + 1 := ⟨k - 1, by omega⟩
  by_cases h1 : r.2.2 = true
  · obtain ⟨g0, g1, g2, g3⟩ := hg h1
    rw [if_pos h1]
    simp only [impl_GetPart.j0]
    by_cases h2 : r.1 > m
    · rw [if_pos (decide_eq_true h2), if_neg (by omega)]
    · rw [if_neg (by simp; omega), impl_Slice_v hl, Option.bind_some]
      by_cases h3 : r.1 > (l.length : Int) - r.2.1
      · rw [sliceB_no (by omega), if_neg (by decide), if_neg (by omega)]
      · rw [sliceB_yes (by omega) (by omega) (by omega) (by omega), if_pos rfl, if_pos ⟨h1, by omega, by omega⟩]
        rw [w64 (x := r.2.1 + r.1) (by omega) (by omega)]
  · rw [if_neg h1, if_neg (fun h => h1 h.1)]
    simp only [impl_GetPart.j0, if_true]

theorem laws_big_v (l : List Int) : laws_big.f l = some (decide ((l.length : Int) > 1048576)) := rfl

theorem laws_same_l (a b : List Int) (hab : a.length = b.length) (hl : a.length ≤ 140737488355328) (d : Nat) : ∀ (k : Nat) (i : Nat), i ≤ a.length → a.length - i = d → d < k →
    laws_same.l0 k a b (i : Int) = some (decide (a.drop i = b.drop i)) := by
  induction d with
  | zero =>
    intro k i hi hd hk
    obtain ⟨k, rfl⟩ : ∃ m, k = m + 1 := ⟨k - 1, by omega⟩
    simp only [laws_same.l0]
    rw [if_neg (by omega), List.drop_eq_nil_of_le (by omega), List.drop_eq_nil_of_le (by omega)]
    rfl
  | succ d ih =>
    intro k i hi hd hk
    obtain ⟨k, rfl⟩ : ∃ m, k = m + 1 := ⟨k - 1, by omega⟩
    simp only [laws_same.l0]
    rw [if_pos (by omega), if_pos (by omega), if_pos (by omega), wnat (by omega), rd_at (by omega : i < a.length), rd_at (by omega : i < b.length), ih k (i + 1) (by omega) (by omega) (by omega)]
    have e := drop_eq_iff (a := a) (b := b) (i := i) (by omega) (by omega)
    by_cases h : a[i]'(by omega) = b[i]'(by omega)
    · rw [if_pos h]; simp only [e, h, true_and]
    · rw [if_neg h]; simp only [e, h, false_and, decide_false]
theorem laws_same_v {k : Nat} {a b : List Int} (hl : a.length ≤ 140737488355328) (hk : a.length < k) : laws_same.f k a b = some (decide (a = b)) := by
  unfold laws_same.f
  by_cases h : a.length = b.length
  · rw [if_pos (by omega)]
    exact laws_same_l a b h hl a.length k 0 (by omega) (by omega) hk
  · rw [if_neg (by omega)]
    have : a ≠ b := fun e => h (by rw [e])
    simp [this]

theorem spec_l1New_l (b : List Int) (hb : b.length ≤ 1048576) (d : Nat) : ∀ (k i : Nat) (h : Int), i ≤ b.length → b.length - i = d → d < k → ∃ h', spec_l1New.l0 k b h (i : Int) = some (b, 0, h') := by
  induction d with
  | zero =>
    intro k i h hi hd hk
    obtain ⟨k, rfl⟩ : ∃ m, k = m + 1 := ⟨k - 1, by omega⟩
    simp only [spec_l1New.l0]
    rw [if_neg (by omega)]
    exact ⟨_, rfl⟩
  | succ d ih =>
    intro k i h hi hd hk
    obtain ⟨k, rfl⟩ : ∃ m, k = m + 1 := ⟨k - 1, by omega⟩
    simp only [spec_l1New.l0]
    rw [if_pos (by omega)]
    by_cases h4 : (i : Int) < 4000
    · rw [if_pos h4, if_pos (by omega), wnat (by omega)]
      exact ih k (i + 1) _ (by omega) (by omega) (by omega)
    · rw [if_neg h4]; exact ⟨_, rfl⟩
theorem spec_l1New_x {k : Nat} {b : List Int} (hb : b.length ≤ 1048576) (hk : b.length < k) : ∃ h', spec_l1New.f k b = some (b, 0, h') := by
  unfold spec_l1New.f
  exact spec_l1New_l b hb b.length k 0 _ (by omega) (by omega) hk
theorem cur_start {b : List Int} (hb : b.length ≤ 1048576) : Cur b 0 := ⟨hb, by omega, by omega⟩

theorem spec_l1Byte_x {b : List Int} {i : Int} (hc : Cur b i) (h : Int) : ∃ r i' h', spec_l1Byte.f b i h = some (r, i', h') ∧ 0 ≤ r ∧ r ≤ 255 ∧ Cur b i' := by
  obtain ⟨h0, h1, h2⟩ := hc
  unfold spec_l1Byte.f
  by_cases hi : i < (b.length : Int)
  · rw [if_pos hi, if_pos h1, w64 (x := i + 1) (by omega) (by omega)]
    exact ⟨_, _, _, rfl, (and_le _).1, (and_le _).2, h0, by omega, by omega⟩
  · rw [if_neg hi]
    exact ⟨_, _, _, rfl, (and_le _).1, (and_le _).2, h0, h1, h2⟩

theorem spec_l1Below_x {b : List Int} {i : Int} (hc : Cur b i) (h : Int) (n : Int) : ∃ r i' h', spec_l1Below.f b i h n = some (r, i', h') ∧ 0 ≤ r ∧ (n ≤ 0 → r = 0) ∧ (0 < n → r < n) ∧ Cur b i' := by
  unfold spec_l1Below.f
  by_cases hn : n ≤ 0
  · rw [if_pos hn]
    exact ⟨_, _, _, rfl, by omega, fun _ => rfl, fun h => by omega, hc⟩
  · rw [if_neg hn]
    by_cases h256 : n ≤ 256
    · rw [if_pos h256]
      obtain ⟨r, i', h', e, r0, r1, hc'⟩ := spec_l1Byte_x hc h
      rw [e, Option.bind_some, if_neg (by omega)]
      refine ⟨_, _, _, rfl, ?_, fun h => by omega, fun _ => ?_, hc'⟩ <;> dsimp only <;> rw [tmod_nn r0]
      · exact Int.emod_nonneg _ (by omega)
      · exact Int.emod_lt_of_pos _ (by omega)
    · rw [if_neg h256]
      obtain ⟨r, i', h', e, r0, r1, hc'⟩ := spec_l1Byte_x hc h
      obtain ⟨s, i'', h'', e', s0, s1, hc''⟩ := spec_l1Byte_x hc' h'
      obtain ⟨t, i3, h3, e3, t0, t1, hc3⟩ := spec_l1Byte_x hc'' h''
      rw [e, Option.bind_some, e', Option.bind_some, e3, Option.bind_some, if_neg (by omega)]
      refine ⟨_, _, _, rfl, ?_, fun h => by omega, fun _ => ?_, hc3⟩ <;> dsimp only <;> rw [w64 (x := r * 65536) (by omega) (by omega), w64 (x := s * 256) (by omega) (by omega), w64 (x := r * 65536 + s * 256) (by omega) (by omega), w64 (x := r * 65536 + s * 256 + t) (by omega) (by omega), tmod_nn (by omega)]
      · exact Int.emod_nonneg _ (by omega)
      · exact Int.emod_lt_of_pos _ (by omega)

theorem spec_l1Int_x {b : List Int} {i : Int} (hc : Cur b i) (h : Int) {l : List Int} (hl : 0 < l.length) : ∃ r i' h', spec_l1Int.f b i h l = some (r, i', h') ∧ r ∈ l ∧ Cur b i' := by
  unfold spec_l1Int.f
  obtain ⟨r, i', h', e, r0, r1, r2, hc'⟩ := spec_l1Below_x hc h (l.length : Int)
  have := r2 (by omega)
  rw [e, Option.bind_some, if_pos r0, if_pos this]
  refine ⟨_, _, _, rfl, ?_, hc'⟩
  obtain ⟨m, rfl⟩ := Int.eq_ofNat_of_zero_le r0
  dsimp only
  rw [rd_at (by omega : m < l.length)]
  exact List.getElem_mem _

theorem spec_l1Once_x {b : List Int} {i : Int} (hc : Cur b i) (h : Int) (n : Int) : ∃ (r : Bool) (i' h' : Int), spec_l1Once.f b i h n = some (r, i', h') ∧ Cur b i' := by
  unfold spec_l1Once.f
  obtain ⟨r, i', h', e, r0, r1, r2, hc'⟩ := spec_l1Below_x hc h n
  rw [e, Option.bind_some]
  exact ⟨_, _, _, rfl, hc'⟩

theorem spec_l1Bytes_l {b : List Int} (n : Nat) (hn : n ≤ 1000000) (d : Nat) : ∀ (k : Nat) (acc : List Int) (j : Nat) (i h : Int), Cur b i → Byt acc → acc.length = j → j + d = n → d < k →
    ∃ r i' h', spec_l1Bytes.l0 k (n : Int) acc (j : Int) b i h = some (r, i', h') ∧ Byt r ∧ r.length = n ∧ Cur b i' := by
  induction d with
  | zero =>
    intro k acc j i h hc hb ha hd hk
    obtain ⟨k, rfl⟩ : ∃ m, k = m + 1 := ⟨k - 1, by omega⟩
    simp only [spec_l1Bytes.l0]
    rw [if_neg (by omega)]
    exact ⟨_, _, _, rfl, hb, by omega, hc⟩
  | succ d ih =>
    intro k acc j i h hc hb ha hd hk
    obtain ⟨k, rfl⟩ : ∃ m, k = m + 1 := ⟨k - 1, by omega⟩
    simp only [spec_l1Bytes.l0]
    obtain ⟨r, i', h', e, r0, r1, hc'⟩ := spec_l1Byte_x hc h
    rw [if_pos (by omega), e, Option.bind_some, if_pos (by omega), mod256 r0 r1, wnat (by omega)]
    exact ih k (acc ++ [r]) (j + 1) i' h' hc' (byt_snoc.2 ⟨hb, r0, r1⟩) (by simp; omega) (by omega) (by omega)
theorem spec_l1Bytes_x {k : Nat} {b : List Int} {i : Int} (hc : Cur b i) (h : Int) {n : Int} (h0 : 0 ≤ n) (h1 : n ≤ 1000) (hk : 2000 < k) : ∃ r i' h', spec_l1Bytes.f k b i h n = some (r, i', h') ∧ Byt r ∧ (r.length : Int) = n ∧ Cur b i' := by
  unfold spec_l1Bytes.f
  obtain ⟨m, rfl⟩ := Int.eq_ofNat_of_zero_le h0
  obtain ⟨r2, i2, h2, e2, b2, l2, c2⟩ := spec_l1Bytes_l m (by omega) m k [] 0 i h hc byt_nil rfl (by omega) (by omega)
  exact ⟨r2, i2, h2, e2, b2, by omega, c2⟩

theorem byt_set {l : List Int} (h : Byt l) (i : Nat) {v : Int} (h0 : 0 ≤ v) (h1 : v ≤ 255) : Byt (l.set i v) := by
  intro x hx
  rcases List.mem_or_eq_of_mem_set hx with hx | rfl
  · exact h x hx
  · exact ⟨h0, h1⟩
theorem u8_range (op : BinOp) (x y : Int) : 0 ≤ Go.bits op .u8 x y ∧ Go.bits op .u8 x y ≤ 255 := by
  unfold Go.bits
  simp only [IntKind.wrap_u8]
  omega
theorem spec_l1Bent_x {b : List Int} {i : Int} (hc : Cur b i) (h : Int) {l : List Int} (hb : Byt l) (hl : l.length ≤ 1000000) : ∃ r i' h', spec_l1Bent.f b i h l = some (r, i', h') ∧ Byt r ∧ r.length ≤ l.length + 1 ∧ Cur b i' := by
  unfold spec_l1Bent.f
  simp only [Option.bind_some, List.length_nil, List.nil_append]
  rw [if_pos (by omega)]
  obtain ⟨r, i1, h1, e1, r0, _, r2, c1⟩ := spec_l1Below_x hc h 6
  rw [e1]
  simp only [Option.bind_some]
  by_cases q0 : r = 0
  · rw [if_pos q0]
    by_cases hp : (l.length : Int) > 0
    · rw [if_pos hp]
      obtain ⟨s, i2, h2, e2, s0, _, s2, c2⟩ := spec_l1Below_x c1 h1 (l.length : Int)
      obtain ⟨t, i3, h3, e3, t0, _, t2, c3⟩ := spec_l1Below_x c2 h2 256
      have := s2 (by omega)
      rw [e2]
      simp only [Option.bind_some]
      rw [e3]
      simp only [Option.bind_some]
      rw [if_pos s0, if_pos (by omega)]
      exact ⟨_, _, _, rfl, byt_set hb _ (by omega) (by omega), by simp, c3⟩
    · rw [if_neg hp]; exact ⟨_, _, _, rfl, hb, by omega, c1⟩
  · rw [if_neg q0]
    by_cases q1 : r = 1
    · rw [if_pos q1, w64 (by omega) (by omega)]
      obtain ⟨s, i2, h2, e2, s0, _, s2, c2⟩ := spec_l1Below_x c1 h1 ((l.length : Int) + 1)
      have := s2 (by omega)
      rw [e2]
      simp only [Option.bind_some]
      rw [if_pos s0, if_pos (by omega)]
      exact ⟨_, _, _, rfl, byt_take hb _, by simp; omega, c2⟩
    · rw [if_neg q1]
      by_cases q2 : r = 2
      · rw [if_pos q2]
        obtain ⟨s, i2, h2, e2, hs, c2⟩ := spec_l1Int_x c1 h1 (l := [0, 1, 128, 255]) (by decide)
        rw [e2]
        simp only [Option.bind_some]
        rw [if_pos (by omega)]
        exact ⟨_, _, _, rfl, byt_snoc.2 ⟨hb, by omega, by omega⟩, by simp, c2⟩
      · rw [if_neg q2]
        by_cases q3 : r = 3
        · rw [if_pos q3]
          by_cases hp : (l.length : Int) > 0
          · rw [if_pos hp]
            obtain ⟨s, i2, h2, e2, s0, _, s2, c2⟩ := spec_l1Below_x c1 h1 (l.length : Int)
            obtain ⟨t, i3, h3, e3, t0, _, t2, c3⟩ := spec_l1Below_x c2 h2 8
            have := s2 (by omega)
            rw [e2]
            simp only [Option.bind_some]
            rw [if_pos s0, if_pos (by omega), e3]
            simp only [Option.bind_some]
            rw [if_pos t0]
            exact ⟨_, _, _, rfl, byt_set hb _ (u8_range _ _ _).1 (u8_range _ _ _).2, by simp, c3⟩
          · rw [if_neg hp]; exact ⟨_, _, _, rfl, hb, by omega, c1⟩
        · rw [if_neg q3]; exact ⟨_, _, _, rfl, hb, by omega, c1⟩

theorem spec_l1Odd_x {b : List Int} {i : Int} (hc : Cur b i) (h : Int) : ∃ r i' h', spec_l1Odd.f b i h = some (r, i', h') ∧ Cur b i' := by
  unfold spec_l1Odd.f
  obtain ⟨r, i', h', e, _, c⟩ := spec_l1Int_x hc h (l := [(-1), 0, 1, 2, 255, 256, 65535, 2147483647, 2147483648, 4294967295, 4294967296, (-2147483648), 9223372036854775807, (-9223372036854775808)]) (by decide)
  rw [e, Option.bind_some]
  exact ⟨_, _, _, rfl, c⟩
theorem spec_l1Raw_x {b : List Int} {i : Int} (hc : Cur b i) (h : Int) : ∃ r i' h', spec_l1Raw.f b i h = some (r, i', h') ∧ Cur b i' := by
  unfold spec_l1Raw.f
  obtain ⟨o, i1, h1, e1, c1⟩ := spec_l1Once_x hc h 2
  rw [e1, Option.bind_some]
  cases o with
  | true =>
    obtain ⟨r, i2, h2, e2, c2⟩ := spec_l1Odd_x c1 h1
    simp only [if_true, e2, Option.bind_some]
    exact ⟨_, _, _, rfl, c2⟩
  | false =>
    obtain ⟨r, i2, h2, e2, _, c2⟩ := spec_l1Int_x c1 h1 (l := [(-1), 1000000000000, 1000000000001]) (by decide)
    simp only [Bool.false_eq_true, if_false, e2, Option.bind_some]
    exact ⟨_, _, _, rfl, c2⟩

theorem vr_byt (f : Nat) : ∀ n : Int, 0 ≤ n → n < 128 ^ (f + 1) → Byt (vr f n) := by
  induction f with
  | zero =>
    intro n h0 h1 x hx
    simp only [vr, List.mem_singleton] at hx
    subst hx
    exact ⟨h0, by have : (128 : Int) ^ (0 + 1) = 128 := by decide
                  omega⟩
  | succ f ih =>
    intro n h0 h1 x hx
    rw [vr] at hx
    rw [Int.pow_succ] at h1
    by_cases h : n < 128
    · rw [if_pos h, List.mem_singleton] at hx
      subst hx; exact ⟨h0, by omega⟩
    · rw [if_neg h] at hx
      rcases List.mem_cons.1 hx with rfl | hx
      · exact ⟨by omega, by omega⟩
      · exact ih (n / 128) (by omega) (by omega) x hx
theorem putVar_byt {l : List Int} (h : Byt l) (n : Int) : Byt (putVar l n) := by
  unfold putVar
  by_cases hn : 0 ≤ n ∧ n ≤ 1000000000000
  · rw [if_pos hn]; exact byt_append h (vr_byt 8 n hn.1 (by omega))
  · rw [if_neg hn]; exact h
theorem rd_drop {l : List Int} {a : Nat} {x : Int} {r : List Int} (h : l.drop a = x :: r) : a < l.length ∧ rd l (a : Int) = x ∧ l.drop (a + 1) = r := by
  have hlt : a < l.length := by
    rcases Nat.lt_or_ge a l.length with h' | h'
    · exact h'
    · rw [List.drop_eq_nil_of_le h'] at h; simp at h
  have e := List.drop_eq_getElem_cons hlt
  rw [h] at e
  have e1 := List.cons.inj e
  exact ⟨hlt, by rw [rd_at hlt, ← e1.1], e1.2.symm⟩
theorem split_mul (r q P : Int) : r * P + q * (P * 128) = (r + 128 * q) * P := by
  rw [Int.add_mul, Int.mul_comm P 128, ← Int.mul_assoc, Int.mul_comm q 128]
/-- What is written is read. -/
theorem rdv_vr (l : List Int) (a : Nat) (f : Nat) : ∀ (d j : Nat) (n acc : Int) (rest : List Int), l.drop (a + j) = vr f n ++ rest → 0 ≤ n → n < 128 ^ d → n < 128 ^ (f + 1) → (j = 0 ∨ 0 < n) →
    0 < d → rdv l (a : Int) d j acc = (acc + n * 128 ^ j, (a : Int) + (j : Int) + ((vr f n).length : Int), true) := by
  induction f with
  | zero =>
    intro d j n acc rest h h0 h1 h2 hj hd
    obtain ⟨d, rfl⟩ : ∃ m, d = m + 1 := ⟨d - 1, by omega⟩
    have h3 : (128 : Int) ^ (0 + 1) = 128 := by decide
    obtain ⟨g1, g2, g3⟩ := rd_drop (show l.drop (a + j) = n :: rest from h)
    rw [show ((a + j : Nat) : Int) = (a : Int) + (j : Int) from by omega] at g2
    rw [rdv, if_pos ⟨by omega, by omega⟩, g2, if_pos (by omega), decide_eq_true hj]; rfl
  | succ f ih =>
    intro d j n acc rest h h0 h1 h2 hj hd
    obtain ⟨d, rfl⟩ : ∃ m, d = m + 1 := ⟨d - 1, by omega⟩
    by_cases hn : n < 128
    · have hv : vr (f + 1) n = [n] := by rw [vr, if_pos hn]
      rw [hv] at h ⊢
      obtain ⟨g1, g2, g3⟩ := rd_drop (show l.drop (a + j) = n :: rest from h)
      rw [show ((a + j : Nat) : Int) = (a : Int) + (j : Int) from by omega] at g2
      rw [rdv, if_pos ⟨by omega, by omega⟩, g2, if_pos (by omega), decide_eq_true hj]; rfl
    · have hv : vr (f + 1) n = (n % 128 + 128) :: vr f (n / 128) := by rw [vr, if_neg hn]
      rw [hv] at h ⊢
      obtain ⟨g1, g2, g3⟩ := rd_drop (show l.drop (a + j) = (n % 128 + 128) :: (vr f (n / 128) ++ rest) from h)
      rw [show ((a + j : Nat) : Int) = (a : Int) + (j : Int) from by omega] at g2
      rw [rdv, if_pos ⟨by omega, by omega⟩, g2, if_neg (by omega)]
      rw [Int.pow_succ] at h1 h2
      have hd' : 0 < d := by
        rcases Nat.eq_zero_or_pos d with e | e
        · subst e; simp at h1; omega
        · exact e
      rw [ih d (j + 1) (n / 128) _ rest (by rw [← g3]; rfl) (by omega) (by omega) (by omega) (Or.inr (by omega)) hd']
      have e1 : n % 128 + 128 - 128 = n % 128 := by omega
      have e2 := split_mul (n % 128) (n / 128) (128 ^ j)
      have e3 : n % 128 + 128 * (n / 128) = n := by omega
      rw [e3] at e2
      rw [e1, Int.pow_succ, Int.add_assoc, e2, List.length_cons]
      congr 2
      push_cast
      omega
/-- What is read was written so. -/
theorem rdv_canon {l : List Int} (hb : Byt l) (a : Nat) (d : Nat) : ∀ (f j : Nat) (acc : Int), d ≤ f + 1 → (rdv l (a : Int) d j acc).2.2 = true →
    ∃ y : Int, 0 ≤ y ∧ (j = 0 ∨ 0 < y) ∧ (rdv l (a : Int) d j acc).1 = acc + y * 128 ^ j ∧ (rdv l (a : Int) d j acc).2.1 = (a : Int) + (j : Int) + ((vr f y).length : Int) ∧ l.drop (a + j) = vr f y ++ l.drop (a + j + (vr f y).length) := by
  induction d with
  | zero => intro f j acc hf h; simp [rdv] at h
  | succ d ih =>
    intro f j acc hf h
    rw [rdv] at h ⊢
    by_cases hin : 0 ≤ (a : Int) ∧ (a : Int) + (j : Int) < (l.length : Int)
    · rw [if_pos hin] at h ⊢
      have hx := rd_byt hb ((a : Int) + (j : Int))
      have hlt : a + j < l.length := by omega
      have hdr := List.drop_eq_getElem_cons hlt
      have hrd : rd l ((a : Int) + (j : Int)) = l[a + j] := by rw [show (a : Int) + (j : Int) = ((a + j : Nat) : Int) from by omega, rd_at hlt]
      by_cases h128 : rd l ((a : Int) + (j : Int)) < 128
      · rw [if_pos h128] at h ⊢
        have hc := of_decide_eq_true h
        have hv : vr f (rd l ((a : Int) + (j : Int))) = [rd l ((a : Int) + (j : Int))] := by
          cases f with
          | zero => rfl
          | succ f => rw [vr, if_pos h128]
        refine ⟨rd l ((a : Int) + (j : Int)), hx.1, hc, rfl, ?_, ?_⟩
        · rw [hv]; rfl
        · rw [hv, hdr, hrd]; rfl
      · rw [if_neg h128] at h ⊢
        obtain ⟨f, rfl⟩ : ∃ m, f = m + 1 := by
          rcases f with _ | f
          · have hd0 : d = 0 := by omega
            subst hd0; simp [rdv] at h
          · exact ⟨f, rfl⟩
        obtain ⟨y, y0, y1, y2, y3, y4⟩ := ih f (j + 1) (acc + (rd l ((a : Int) + (j : Int)) - 128) * 128 ^ j) (by omega) h
        have hy : 0 < y := by rcases y1 with e | e; · omega
                              · exact e
        have hv : vr (f + 1) (rd l ((a : Int) + (j : Int)) - 128 + 128 * y) = rd l ((a : Int) + (j : Int)) :: vr f y := by
          rw [vr, if_neg (by omega), show (rd l ((a : Int) + (j : Int)) - 128 + 128 * y) % 128 + 128 = rd l ((a : Int) + (j : Int)) from by omega, show (rd l ((a : Int) + (j : Int)) - 128 + 128 * y) / 128 = y from by omega]
        refine ⟨rd l ((a : Int) + (j : Int)) - 128 + 128 * y, by omega, Or.inr (by omega), ?_, ?_, ?_⟩
        · rw [y2, Int.pow_succ, Int.add_assoc, split_mul]
        · rw [y3, hv, List.length_cons]; push_cast; omega
        · rw [hv, List.length_cons, hdr, hrd, show a + j + ((vr f y).length + 1) = a + (j + 1) + (vr f y).length from by omega]
          exact congrArg _ y4
    · rw [if_neg hin] at h; simp at h
theorem getVar_vr (b : List Int) (n : Int) (h0 : 0 ≤ n) (h1 : n ≤ 1000000000000) (rest : List Int) : getVar (b ++ vr 8 n ++ rest) (b.length : Int) = (n, (b.length : Int) + ((vr 8 n).length : Int), true) := by
  have hd : (b ++ vr 8 n ++ rest).drop (b.length + 0) = vr 8 n ++ rest := by rw [Nat.add_zero, List.append_assoc, List.drop_left]
  have h := rdv_vr (b ++ vr 8 n ++ rest) b.length 8 6 0 n 0 rest hd h0 (by omega) (by omega) (Or.inl rfl) (by omega)
  have e : (0 : Int) + n * 128 ^ 0 = n := by simp
  rw [e] at h
  unfold getVar
  rw [h, if_pos ⟨rfl, h1⟩]
  simp
theorem getVar_canon {l : List Int} (hb : Byt l) (hl : l.length ≤ 140737488351232) {a : Int} (h : (getVar l a).2.2 = true) : 0 ≤ a ∧ a ≤ (l.length : Int) ∧ putVar (l.take a.toNat) (getVar l a).1 = l.take (getVar l a).2.1.toNat := by
  have hr := getVar_range hb hl a h
  unfold getVar at h hr ⊢
  by_cases hc : (rdv l a 6 0 0).2.2 = true ∧ (rdv l a 6 0 0).1 ≤ 1000000000000
  · rw [if_pos hc] at h hr ⊢
    obtain ⟨g0, g1, g2, g3⟩ := rdv_range hb a 6 0 0 (by omega) hc.1
    obtain ⟨m, rfl⟩ := Int.eq_ofNat_of_zero_le g1
    obtain ⟨y, y0, _, y2, y3, y4⟩ := rdv_canon hb m 6 8 0 0 (by omega) hc.1
    have e : (0 : Int) + y * 128 ^ 0 = y := by simp
    rw [e] at y2
    refine ⟨g1, by omega, ?_⟩
    unfold putVar
    rw [if_pos ⟨hr.1, hr.2.1⟩, y2, y3, Int.toNat_natCast]
    simp only [Nat.add_zero] at y4
    rw [show ((m : Int) + ((0 : Nat) : Int) + ((vr 8 y).length : Int)).toNat = m + (vr 8 y).length from by omega, List.take_add, y4, List.take_left']
    rfl
  · rw [if_neg hc] at h; simp at h
theorem getPart_put (e f : List Int) (hf : f.length ≤ 100) : getPart (putPart e f) (e.length : Int) (f.length : Int) = (f, ((putPart e f).length : Int), true) := by
  have hp : putPart e f = e ++ vr 8 (f.length : Int) ++ f := by unfold putPart putVar; rw [if_pos ⟨by omega, by omega⟩]
  have h := getVar_vr e (f.length : Int) (by omega) (by omega) f
  rw [hp]
  unfold getPart
  rw [h]
  dsimp only
  have hlen : ((e ++ vr 8 (f.length : Int) ++ f).length : Int) = (e.length : Int) + ((vr 8 (f.length : Int)).length : Int) + (f.length : Int) := by simp only [List.length_append]; push_cast; omega
  rw [if_pos ⟨rfl, by omega, by omega⟩, hlen]
  have e1 : ((e.length : Int) + ((vr 8 (f.length : Int)).length : Int)).toNat = (e ++ vr 8 (f.length : Int)).length := by rw [List.length_append]; omega
  rw [List.take_of_length_le (by have := hlen; omega), e1, List.drop_left]

theorem spec_l1Num_x {b : List Int} {i : Int} (hc : Cur b i) (h : Int) : ∃ r i' h', spec_l1Num.f b i h = some (r, i', h') ∧ Cur b i' := by
  unfold spec_l1Num.f
  obtain ⟨r, i1, h1, e1, r0, _, r2, c1⟩ := spec_l1Below_x hc h 4
  rw [e1, Option.bind_some]
  dsimp only
  by_cases q0 : r = 0
  · obtain ⟨s, i2, h2, e2, _, _, _, c2⟩ := spec_l1Below_x c1 h1 2000
    rw [if_pos q0, e2, Option.bind_some]
    exact ⟨_, _, _, rfl, c2⟩
  · rw [if_neg q0]
    by_cases q1 : r = 1
    · obtain ⟨s, i2, h2, e2, _, c2⟩ := spec_l1Int_x c1 h1 (l := [0, 1, 127, 128, 250, 251, 1000000000000]) (by decide)
      rw [if_pos q1, e2, Option.bind_some]
      exact ⟨_, _, _, rfl, c2⟩
    · rw [if_neg q1]
      by_cases q2 : r = 2
      · obtain ⟨s, i2, h2, e2, _, _, _, c2⟩ := spec_l1Below_x c1 h1 1000000
        obtain ⟨t, i3, h3, e3, _, _, _, c3⟩ := spec_l1Below_x c2 h2 1000000
        rw [if_pos q2, e2, Option.bind_some]
        dsimp only
        rw [e3, Option.bind_some]
        exact ⟨_, _, _, rfl, c3⟩
      · obtain ⟨s, i2, h2, e2, _, _, _, c2⟩ := spec_l1Below_x c1 h1 20
        rw [if_neg q2, e2, Option.bind_some]
        exact ⟨_, _, _, rfl, c2⟩
theorem spec_l1One_x {b : List Int} {i : Int} (hc : Cur b i) (h : Int) : ∃ r i' h', spec_l1One.f b i h = some (r, i', h') ∧ Cur b i' := by
  unfold spec_l1One.f
  obtain ⟨o, i1, h1, e1, c1⟩ := spec_l1Once_x hc h 6
  rw [e1, Option.bind_some]
  cases o with
  | true =>
    obtain ⟨r, i2, h2, e2, c2⟩ := spec_l1Raw_x c1 h1
    simp only [if_true, e2, Option.bind_some]
    exact ⟨_, _, _, rfl, c2⟩
  | false =>
    obtain ⟨r, i2, h2, e2, c2⟩ := spec_l1Num_x c1 h1
    simp only [Bool.false_eq_true, if_false, e2, Option.bind_some]
    exact ⟨_, _, _, rfl, c2⟩
theorem spec_DrawPutVar_x {k : Nat} {b : List Int} (hb : b.length ≤ 1048576) (hk : 1049000 < k) : ∃ x n, spec_DrawPutVar.f k b = some (x, n) ∧ Byt x ∧ x.length ≤ 3 := by
  unfold spec_DrawPutVar.f
  obtain ⟨h, e⟩ := spec_l1New_x (k := k) hb (by omega)
  obtain ⟨r, i1, h1, e1, r0, _, r2, c1⟩ := spec_l1Below_x (cur_start hb) h 3
  have := r2 (by omega)
  obtain ⟨x, i2, h2, e2, xb, xl, c2⟩ := spec_l1Bytes_x (k := k) c1 h1 r0 (by omega) (by omega)
  obtain ⟨n, i3, h3, e3, c3⟩ := spec_l1One_x c2 h2
  rw [e, Option.bind_some, e1, Option.bind_some, e2, Option.bind_some, e3, Option.bind_some]
  exact ⟨_, _, rfl, xb, by first | omega | (dsimp only; omega)⟩

theorem spec_DrawGetVar_l {b : List Int} (d : Nat) : ∀ (k : Nat) (acc : List Int) (i h : Int), Cur b i → Byt acc → acc.length + d ≤ 1000000 → d < k →
    ∃ x a, spec_DrawGetVar.l0 k acc (d : Int) b i h = some (x, a) ∧ Byt x ∧ x.length = acc.length + d ∧ -1 ≤ a ∧ a ≤ 2 := by
  induction d with
  | zero =>
    intro k acc i h hc hb ha hk
    obtain ⟨k, rfl⟩ : ∃ m, k = m + 1 := ⟨k - 1, by omega⟩
    obtain ⟨r, i1, h1, e1, r0, _, r2, c1⟩ := spec_l1Below_x hc h 4
    have := r2 (by omega)
    simp only [spec_DrawGetVar.l0]
    rw [if_neg (by omega), e1, Option.bind_some]
    refine ⟨_, _, rfl, hb, by omega, ?_, ?_⟩ <;> dsimp only <;> rw [w64 (by omega) (by omega)] <;> omega
  | succ d ih =>
    intro k acc i h hc hb ha hk
    obtain ⟨k, rfl⟩ : ∃ m, k = m + 1 := ⟨k - 1, by omega⟩
    simp only [spec_DrawGetVar.l0]
    obtain ⟨r, i', h', e, hr, hc'⟩ := spec_l1Int_x hc h (l := [128, 255, 0, 1, 127]) (by decide)
    have hr2 : 0 ≤ r ∧ r ≤ 255 := by
      simp only [List.mem_cons, List.not_mem_nil, or_false] at hr
      omega
    rw [if_pos (by omega), e, Option.bind_some, if_pos (by omega), mod256 hr2.1 hr2.2, w64 (by omega) (by omega), show ((d + 1 : Nat) : Int) - 1 = (d : Int) from by omega]
    obtain ⟨x, a, e2, b2, l2, a0, a1⟩ := ih k (acc ++ [r]) i' h' hc' (byt_snoc.2 ⟨hb, hr2⟩) (by simp; omega) (by omega)
    exact ⟨x, a, e2, b2, by rw [l2]; simp; omega, a0, a1⟩
theorem spec_DrawGetVar_x {k : Nat} {b : List Int} (hb : b.length ≤ 1048576) (hk : 1049000 < k) : ∃ x a, spec_DrawGetVar.f k b = some (x, a) ∧ Byt x ∧ x.length ≤ 20 ∧ -1 ≤ a ∧ a ≤ 2 := by
  unfold spec_DrawGetVar.f
  obtain ⟨h, e⟩ := spec_l1New_x (k := k) hb (by omega)
  obtain ⟨o, i1, h1, e1, c1⟩ := spec_l1Once_x (cur_start hb) h 2
  rw [e, Option.bind_some, e1, Option.bind_some]
  cases o with
  | true =>
    obtain ⟨x, i2, h2, e2, xb, xl, c2⟩ := spec_l1Bytes_x (k := k) c1 h1 (by omega : (0 : Int) ≤ 1) (by omega) (by omega)
    obtain ⟨n, i3, h3, e3, c3⟩ := spec_l1Num_x c2 h2
    have hp := putVar_length x n
    simp only [if_true]
    rw [e2, Option.bind_some, e3, Option.bind_some]
    dsimp only
    rw [spec_PutVar_v (by omega) n (by omega), Option.bind_some]
    exact ⟨_, _, rfl, putVar_byt xb n, by first | omega | (dsimp only; omega), by first | omega | (dsimp only; omega), by first | omega | (dsimp only; omega)⟩
  | false =>
    obtain ⟨r, i2, h2, e2, r0, _, r2, c2⟩ := spec_l1Below_x c1 h1 8
    have := r2 (by omega)
    simp only [Bool.false_eq_true, if_false]
    rw [e2, Option.bind_some]
    obtain ⟨m, rfl⟩ := Int.eq_ofNat_of_zero_le r0
    obtain ⟨x, a, e3, xb, xl, a0, a1⟩ := spec_DrawGetVar_l m k [] i2 h2 c2 byt_nil (by simp; omega) (by omega)
    rw [e3]
    exact ⟨x, a, rfl, xb, by rw [xl]; simp; omega, a0, a1⟩

theorem spec_DrawPutPart_x {k : Nat} {b : List Int} (hb : b.length ≤ 1048576) (hk : 1049000 < k) : ∃ x y, spec_DrawPutPart.f k b = some (x, y) ∧ Byt x ∧ Byt y ∧ x.length ≤ 3 ∧ y.length ≤ 6 := by
  unfold spec_DrawPutPart.f
  obtain ⟨h, e⟩ := spec_l1New_x (k := k) hb (by omega)
  obtain ⟨r, i1, h1, e1, r0, _, r2, c1⟩ := spec_l1Below_x (cur_start hb) h 3
  have := r2 (by omega)
  obtain ⟨x, i2, h2, e2, xb, xl, c2⟩ := spec_l1Bytes_x (k := k) c1 h1 r0 (by omega) (by omega)
  obtain ⟨s, i3, h3, e3, s0, _, s2, c3⟩ := spec_l1Below_x c2 h2 6
  have := s2 (by omega)
  obtain ⟨y, i4, h4, e4, yb, yl, c4⟩ := spec_l1Bytes_x (k := k) c3 h3 s0 (by omega) (by omega)
  rw [e, Option.bind_some, e1, Option.bind_some, e2, Option.bind_some, e3, Option.bind_some, e4, Option.bind_some]
  exact ⟨_, _, rfl, xb, yb, by first | omega | (dsimp only; omega), by first | omega | (dsimp only; omega)⟩

theorem putPart_byt {l s : List Int} (h : Byt l) (hs : Byt s) : Byt (putPart l s) := by
  unfold putPart; exact byt_append (putVar_byt h _) hs
theorem spec_DrawGetPart_x {k : Nat} {b : List Int} (hb : b.length ≤ 1048576) (hk : 1049000 < k) : ∃ x a n, spec_DrawGetPart.f k b = some (x, a, n) ∧ Byt x ∧ x.length ≤ 40 ∧ -1 ≤ a ∧ a ≤ 9 := by
  unfold spec_DrawGetPart.f
  obtain ⟨h, e⟩ := spec_l1New_x (k := k) hb (by omega)
  obtain ⟨x, i1, h1, e1, xb, xl, c1⟩ := spec_l1Bytes_x (k := k) (cur_start hb) h (by omega : (0 : Int) ≤ 1) (by omega) (by omega)
  obtain ⟨r, i2, h2, e2, r0, _, r2, c2⟩ := spec_l1Below_x c1 h1 6
  have := r2 (by omega)
  obtain ⟨y, i3, h3, e3, yb, yl, c3⟩ := spec_l1Bytes_x (k := k) c2 h2 r0 (by omega) (by omega)
  have hp := putPart_length x y
  obtain ⟨z, i4, h4, e4, zb, zl, c4⟩ := spec_l1Bent_x c3 h3 (putPart_byt xb yb) (by omega)
  obtain ⟨a, i5, h5, e5, ha, c5⟩ := spec_l1Int_x c4 h4 (l := [1, 1, 1, 0, 9, (-1)]) (by decide)
  obtain ⟨n, i6, h6, e6, _, c6⟩ := spec_l1Int_x c5 h5 (l := [9, 9, 3, 0, (-1)]) (by decide)
  simp only [List.mem_cons, List.not_mem_nil, or_false] at ha
  rw [e, Option.bind_some, e1, Option.bind_some, e2, Option.bind_some, e3, Option.bind_some]
  dsimp only
  rw [spec_PutPart_v (by omega) (by omega) (by omega), Option.bind_some, e4, Option.bind_some, e5, Option.bind_some, e6, Option.bind_some]
  exact ⟨_, _, _, rfl, zb, by first | omega | (dsimp only; omega), by first | omega | (dsimp only; omega), by first | omega | (dsimp only; omega)⟩

theorem FnVars : laws_FnVars.Pure := by
  intro l hm hr hw
  refine exists_ge 1050000 _ (fun k hk => ?_)
  unfold laws_FnVars.f
  rw [laws_big_v, Option.bind_some]
  by_cases hbig : (l.length : Int) > 1048576
  · rw [if_pos (decide_eq_true hbig)]
  · rw [if_neg (by simpa using hbig)]
    obtain ⟨b, n, e1, bb, bl⟩ := spec_DrawPutVar_x (k := k) (b := l) (by omega) (by omega)
    obtain ⟨c, i, e2, cb, cl, i0, i1⟩ := spec_DrawGetVar_x (k := k) (b := l) (by omega) (by omega)
    obtain ⟨e, f, e3, eb, fb, el, fl⟩ := spec_DrawPutPart_x (k := k) (b := l) (by omega) (by omega)
    obtain ⟨g, j, most, e4, gb, gl, j0, j1⟩ := spec_DrawGetPart_x (k := k) (b := l) (by omega) (by omega)
    have hx := putVar_length b n
    have hy := putPart_length e f
    have hq := getPart_length g j most
    rw [e1, Option.bind_some, impl_PutVar_v (l := b) (by omega) n (by omega), Option.bind_some, e2, Option.bind_some, impl_GetVar_v (a := i) cb (by omega) (by omega) (by omega) (by omega), Option.bind_some, spec_GetVar_v (a := i) cb (by omega) (by omega) (by omega) (by omega), Option.bind_some,
      e3, Option.bind_some, impl_PutPart_v (l := e) (s := f) (by omega) (by omega) (by omega), Option.bind_some, e4, Option.bind_some, impl_GetPart_v (a := j) gb (by omega) (by omega) (by omega) most (by omega), Option.bind_some, spec_GetPart_v (a := j) gb (by omega) (by omega) (by omega) most (by omega), Option.bind_some,
      spec_PutVar_v (l := b) (by omega) n (by omega), Option.bind_some, laws_same_v (by omega) (by omega), Option.bind_some, if_pos (decide_eq_true rfl), if_pos rfl, if_pos rfl, bne_self_eq_false, if_neg (by decide),
      spec_PutPart_v (l := e) (s := f) (by omega) (by omega) (by omega), Option.bind_some, laws_same_v (by omega) (by omega), Option.bind_some, if_pos (decide_eq_true rfl), laws_same_v (by omega) (by omega), Option.bind_some, if_pos (decide_eq_true rfl), if_pos rfl, bne_self_eq_false]
    obtain ⟨k, rfl⟩ : ∃ m, k = m + 3 := ⟨k - 3, by omega⟩
    simp only [laws_FnVars.j0]
    rw [if_neg (by decide), impl_GetPart_v (putPart_byt eb fb) (by omega) (by omega) (by omega) _ (by omega), Option.bind_some, getPart_put e f (by omega)]
    dsimp only
    rw [if_pos rfl, laws_same_v (by omega) (by omega), Option.bind_some, if_pos (decide_eq_true rfl), bne_self_eq_false]
    simp only [laws_FnVars.j1]
    rw [if_neg (by decide)]
    have out : ¬ (0 ≤ n ∧ n ≤ 1000000000000) → laws_FnVars.j2 (k + 1) b n (putVar b n) c i (getVar c i).1 (getVar c i).2.1 (getVar c i).2.2 true = some true := by
      intro hn
      have hp : putVar b n = b := by unfold putVar; rw [if_neg hn]
      simp only [laws_FnVars.j2, if_true]
      rw [hp, laws_same_v (by omega) (by omega), Option.bind_some, decide_eq_true rfl]
    by_cases n0 : n < 0
    · rw [if_pos n0]; exact out (by omega)
    · rw [if_neg n0]
      by_cases n1 : n > 1000000000000
      · rw [decide_eq_true n1]; exact out (by omega)
      · rw [decide_eq_false n1]
        simp only [laws_FnVars.j2, Bool.false_eq_true, if_false, Option.bind_some, List.length_nil, List.nil_append]
        have hp : putVar b n = b ++ vr 8 n := by unfold putVar; rw [if_pos ⟨by omega, by omega⟩]
        have hg := getVar_vr b n (by omega) (by omega) [200]
        rw [← hp] at hg
        have hb200 : Byt (putVar b n ++ [200]) := byt_snoc.2 ⟨putVar_byt bb n, by omega, by omega⟩
        have hlen : (putVar b n).length = b.length + (vr 8 n).length := by rw [hp, List.length_append]
        rw [if_pos (by omega), if_pos (by omega), impl_GetVar_v hb200 (by simp; omega) (by omega) (by omega) (by omega), Option.bind_some, hg]
        dsimp only
        rw [if_pos rfl, if_pos rfl, if_pos (by omega)]
        by_cases ok : (getVar c i).2.2 = true
        · obtain ⟨a0, a1, a2⟩ := getVar_canon cb (by omega) ok
          have hr := getVar_range cb (by omega) i ok
          have ht := putVar_length (c.take i.toNat) (getVar c i).1
          have ht2 : (c.take i.toNat).length ≤ c.length := by simp; omega
          rw [if_pos ok, if_pos a0, if_pos a1, impl_PutVar_v (by omega) _ (by omega), Option.bind_some, if_pos (by omega), if_pos (by omega), laws_same_v (by omega) (by omega), Option.bind_some, a2, decide_eq_true rfl]
        · rw [if_neg ok]

end Go.Proofs.Ytfmhhjlhaklljaa.Pure
