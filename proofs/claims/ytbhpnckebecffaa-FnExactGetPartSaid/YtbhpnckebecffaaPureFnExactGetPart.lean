/- GetPart returns what the reference's GetPart returns, in memory of its own, and leaves its arguments as they were, for all arguments; no condition. -/
import Derived.Test.YtbhpnckebecffaaPFnExactGetPartx3
import Derived.Test.YtbhpnckebecffaaLib
set_option linter.unusedVariables false
set_option linter.unusedSimpArgs false
namespace Go.Proofs.Ytbhpnckebecffaa.Pure
open Go.RowKit Go.Proofs.Ytbhpnckebecffaa.PFnExactGetPart Go.Proofs.YtbhpnckebecffaaW.PrintWords Go.Proofs.YtbhpnckebecffaaW.PrintLast Go.Proofs.YtbhpnckebecffaaW.PrintMore Go.Proofs.Ytbhpnckebecffaa.Lib

theorem impl_within_v (a b c : Int) : impl_within.f a b c = some (decide (b ≤ a ∧ a ≤ c)) := by
  unfold impl_within.f
  by_cases h : b ≤ a
  · rw [if_pos h]; simp [h]
  · rw [if_neg h]; simp [h]

theorem laws_toByteS_l (l : List Int) (hl : l.length ≤ 140737488351232) (d : Nat) : ∀ (k : Nat) (out : List Int) (i : Nat), out.length = l.length → i ≤ l.length → l.length - i = d → d < k →
    (∀ j, j < i → out[j]? = l[j]?) → laws_toByteS.l0 k l out (i : Int) = some l := by
  induction d with
  | zero =>
    intro k out i ho hi hd hk hj
    obtain ⟨k, rfl⟩ : ∃ m, k = m + 1 := ⟨k - 1, by omega⟩
    simp only [laws_toByteS.l0]
    rw [if_neg (by omega)]
    congr 1
    apply List.ext_getElem?
    intro j
    by_cases hjl : j < i
    · exact hj j hjl
    · rw [List.getElem?_eq_none (by omega), List.getElem?_eq_none (by omega)]
  | succ d ih =>
    intro k out i ho hi hd hk hj
    obtain ⟨k, rfl⟩ : ∃ m, k = m + 1 := ⟨k - 1, by omega⟩
    simp only [laws_toByteS.l0]
    rw [if_pos (by omega), if_pos (by omega), if_pos (by omega), wnat (by omega), rd_at (by omega : i < l.length)]
    refine ih k _ (i + 1) (by simp [ho]) (by omega) (by omega) (by omega) (fun j h => ?_)
    rw [Int.toNat_natCast, List.getElem?_set]
    by_cases e : i = j
    · subst e; rw [if_pos rfl, if_pos (by omega), List.getElem?_eq_getElem]
    · rw [if_neg e]; exact hj j (by omega)
theorem laws_toByteS_v {k : Nat} {l : List Int} (hl : l.length ≤ 140737488351232) (hk : l.length < k) : laws_toByteS.f k l = some l := by
  unfold laws_toByteS.f
  rw [if_pos (by omega), if_pos (by omega)]
  exact laws_toByteS_l l hl l.length k _ 0 (by simp) (by omega) (by omega) hk (fun j h => by omega)

theorem laws_eqByteS_l (a b : List Int) (hab : a.length = b.length) (hl : a.length ≤ 140737488355328) (d : Nat) : ∀ (k : Nat) (i : Nat), i ≤ a.length → a.length - i = d → d < k →
    laws_eqByteS.l0 k a b (i : Int) = some (decide (a.drop i = b.drop i)) := by
  induction d with
  | zero =>
    intro k i hi hd hk
    obtain ⟨k, rfl⟩ : ∃ m, k = m + 1 := ⟨k - 1, by omega⟩
    simp only [laws_eqByteS.l0]
    rw [if_neg (by omega), List.drop_eq_nil_of_le (by omega), List.drop_eq_nil_of_le (by omega)]
    rfl
  | succ d ih =>
    intro k i hi hd hk
    obtain ⟨k, rfl⟩ : ∃ m, k = m + 1 := ⟨k - 1, by omega⟩
    simp only [laws_eqByteS.l0]
    rw [if_pos (by omega), if_pos (by omega), if_pos (by omega), wnat (by omega), rd_at (by omega : i < a.length), rd_at (by omega : i < b.length), ih k (i + 1) (by omega) (by omega) (by omega)]
    have e := drop_eq_iff (a := a) (b := b) (i := i) (by omega) (by omega)
    by_cases h : a[i]'(by omega) = b[i]'(by omega)
    · rw [if_pos h]; simp only [e, h, true_and]
    · rw [if_neg h]; simp only [e, h, false_and, decide_false]
theorem laws_eqByteS_v {k : Nat} {a b : List Int} (hl : a.length ≤ 140737488355328) (hk : a.length < k) : laws_eqByteS.f k a b = some (decide (a = b)) := by
  unfold laws_eqByteS.f
  by_cases h : a.length = b.length
  · rw [if_pos (by omega)]
    exact laws_eqByteS_l a b h hl a.length k 0 (by omega) (by omega) hk
  · rw [if_neg (by omega)]
    have : a ≠ b := fun e => h (by rw [e])
    simp [this]

theorem laws_markByteS_l (c : Int) (n : Nat) (hc : 0 ≤ c) (hl : c + n ≤ 4611686018427387904) (d : Nat) : ∀ (k : Nat) (x : List Int) (i : Nat), x.length = n → i ≤ n → n - i = d → d < k →
    (∀ j, j < i → x[j]? = (markB c n)[j]?) → laws_markByteS.l0 k x (c + (i : Int)) (i : Int) = some (c + (n : Int), markB c n) := by
  induction d with
  | zero =>
    intro k x i hx hi hd hk hj
    obtain ⟨k, rfl⟩ : ∃ m, k = m + 1 := ⟨k - 1, by omega⟩
    simp only [laws_markByteS.l0]
    rw [if_neg (by omega), ext_all hx (markB_length c n) (fun j h => hj j (by omega)), show i = n from by omega]
  | succ d ih =>
    intro k x i hx hi hd hk hj
    obtain ⟨k, rfl⟩ : ∃ m, k = m + 1 := ⟨k - 1, by omega⟩
    simp only [laws_markByteS.l0]
    rw [if_pos (by omega), if_pos (by omega), wnat (by omega), w64 (by omega) (by omega), show c + (i : Int) + 1 = c + ((i + 1 : Nat) : Int) from by omega]
    exact ih k _ (i + 1) (by simp [hx]) (by omega) (by omega) (by omega) (set_step (by omega) hj (markB_get c n i (by omega)))
theorem laws_markByteS_v {k : Nat} {x : List Int} {c : Int} (hc : 0 ≤ c) (hl : c + x.length ≤ 4611686018427387904) (hk : x.length < k) : laws_markByteS.f k x c = some (c + (x.length : Int), markB c x.length) := by
  unfold laws_markByteS.f
  have h := laws_markByteS_l c x.length hc hl x.length k x 0 rfl (by omega) (by omega) hk (fun j h => by omega)
  rw [show c + ((0 : Nat) : Int) = c from by omega] at h
  exact h

theorem laws_heldByteS_l (c : Int) (n : Nat) (hc : 0 ≤ c) (hl : c + n ≤ 4611686018427387904) (d : Nat) : ∀ (k : Nat) (i : Nat), i ≤ n → n - i = d → d < k →
    laws_heldByteS.l0 k (markB c n) (c + (i : Int)) (i : Int) = some (c + (n : Int)) := by
  induction d with
  | zero =>
    intro k i hi hd hk
    obtain ⟨k, rfl⟩ : ∃ m, k = m + 1 := ⟨k - 1, by omega⟩
    simp only [laws_heldByteS.l0, markB_length]
    rw [if_neg (by omega), show i = n from by omega]
  | succ d ih =>
    intro k i hi hd hk
    obtain ⟨k, rfl⟩ : ∃ m, k = m + 1 := ⟨k - 1, by omega⟩
    simp only [laws_heldByteS.l0, markB_length]
    rw [if_pos (by omega), if_pos (by omega), markB_rd c n i (by omega), if_pos rfl, wnat (by omega), w64 (by omega) (by omega), show c + (i : Int) + 1 = c + ((i + 1 : Nat) : Int) from by omega]
    exact ih k (i + 1) (by omega) (by omega) (by omega)
theorem laws_heldByteS_v {k : Nat} {n : Nat} {c : Int} (hc : 0 ≤ c) (hl : c + n ≤ 4611686018427387904) (hk : n < k) : laws_heldByteS.f k (markB c n) c = some (c + (n : Int)) := by
  unfold laws_heldByteS.f
  have h := laws_heldByteS_l c n hc hl n k 0 (by omega) (by omega) hk
  rw [show c + ((0 : Nat) : Int) = c from by omega] at h
  exact h

theorem spec_GetVar_l (l : List Int) (hb : Byt l) (hl : l.length ≤ 140737488351232) (a : Int) (ha0 : -9223372036854775808 ≤ a) (ha1 : a ≤ 9223372036854775807) (d : Nat) : ∀ (k j : Nat) (n : Int), j + d = 6 → 0 ≤ n → n < 128 ^ j → 2 * d + 1 < k →
    spec_GetVar.l0 k l a n (j : Int) = some (if (rdv l a d j n).2.2 = true ∧ (rdv l a d j n).1 ≤ 1000000000000 then rdv l a d j n else (0, 0, false)) := by
  induction d with
  | zero =>
    intro k j n hj hn0 hn hk
    obtain ⟨k, rfl⟩ : ∃ m, k = m + 1 := ⟨k - 1, by omega⟩
    simp only [spec_GetVar.l0]
    rw [if_neg (by omega)]
    simp [rdv]
  | succ d ih =>
    intro k j n hj hn0 hn hk
    obtain ⟨k, rfl⟩ : ∃ m, k = m + 2 := ⟨k - 2, by omega⟩
    simp only [spec_GetVar.l0]
    rw [if_pos (by omega)]
    by_cases hin : 0 ≤ a ∧ a + (j : Int) < (l.length : Int)
    · have hx := rd_byt hb (a + (j : Int))
      rw [if_neg (by omega), w64 (x := (l.length : Int) - j) (by omega) (by omega), decide_eq_false (by omega)]
      simp only [spec_GetVar.j1]
      have hs := var_step (j := j) n (rd l (a + (j : Int)) % 128) hn0 hn (by omega) (by omega)
      rw [if_neg (by decide), w64 (x := a + (j : Int)) (by omega) (by omega), if_pos (by omega), if_pos (by omega), w64 (x := 7 * (j : Int)) (by omega) (by omega), if_pos (by omega), w64 (x := rd l (a + (j : Int))) (by omega) (by omega),
        and127 hx.1 hx.2, shl7 (by omega) (by omega) (by omega), orVar (by omega) hn0 hn (by omega) (by omega)]
      rw [rdv, if_pos hin]
      by_cases h128 : rd l (a + (j : Int)) < 128
      · rw [if_pos h128, if_pos h128]
        have e : rd l (a + (j : Int)) % 128 = rd l (a + (j : Int)) := by omega
        rw [e] at hs ⊢
        rw [w64 (x := a + (j : Int) + 1) (by omega) (by omega)]
        by_cases h0 : rd l (a + (j : Int)) = 0
        · rw [if_pos h0]
          by_cases hj0 : (j : Int) > 0
          · rw [if_pos hj0, if_neg]
            rintro ⟨h, _⟩
            have := of_decide_eq_true h
            omega
          · rw [if_neg hj0]
            have hd : decide (j = 0 ∨ 0 < rd l (a + (j : Int))) = true := decide_eq_true (Or.inl (by omega))
            simp only [hd, true_and]
            by_cases hg : n + rd l (a + (j : Int)) * 128 ^ j > 1000000000000
            · rw [if_pos hg, if_neg (by omega)]
            · rw [if_neg hg, if_pos (by omega)]
        · rw [if_neg h0]
          have hd : decide (j = 0 ∨ 0 < rd l (a + (j : Int))) = true := decide_eq_true (Or.inr (by omega))
          simp only [hd, true_and]
          by_cases hg : n + rd l (a + (j : Int)) * 128 ^ j > 1000000000000
          · rw [if_pos hg, if_neg (by omega)]
          · rw [if_neg hg, if_pos (by omega)]
      · rw [if_neg h128, if_neg h128]
        have e : rd l (a + (j : Int)) % 128 = rd l (a + (j : Int)) - 128 := by omega
        rw [e] at hs ⊢
        rw [w64 (x := (j : Int) + 1) (by omega) (by omega)]
        exact ih k (j + 1) _ (by omega) hs.1 hs.2 (by omega)
    · rw [rdv, if_neg hin]
      have hr : (if ((0, 0, false) : Int × Int × Bool).2.2 = true ∧ ((0, 0, false) : Int × Int × Bool).1 ≤ 1000000000000 then ((0, 0, false) : Int × Int × Bool) else (0, 0, false)) = (0, 0, false) := by simp
      rw [hr]
      by_cases hneg : a < 0
      · rw [if_pos hneg]; simp [spec_GetVar.j1]
      · rw [if_neg hneg, w64 (x := (l.length : Int) - j) (by omega) (by omega), decide_eq_true (by omega)]; simp [spec_GetVar.j1]
theorem spec_GetVar_v {k : Nat} {l : List Int} (hb : Byt l) (hl : l.length ≤ 140737488351232) {a : Int} (ha0 : -9223372036854775808 ≤ a) (ha1 : a ≤ 9223372036854775807) (hk : 20 < k) : spec_GetVar.f k l a = some (getVar l a) := by
  unfold spec_GetVar.f
  exact spec_GetVar_l l hb hl a ha0 ha1 6 k 0 0 (by omega) (by omega) (by decide) (by omega)

theorem impl_readVar_l (l : List Int) (hb : Byt l) (hl : l.length ≤ 140737488351232) (a : Int) (ha0 : -9223372036854775808 ≤ a) (ha1 : a ≤ 9223372036854775807) (most : Nat) (hm : most ≤ 8) (d : Nat) : ∀ (k j : Nat) (n : Int), j + d = most → 0 ≤ n → n < 128 ^ j → d < k →
    impl_readVar.l0 k l a n (most : Int) (j : Int) = some (rdv l a d j n) := by
  induction d with
  | zero =>
    intro k j n hj hn0 hn hk
    obtain ⟨k, rfl⟩ : ∃ m, k = m + 1 := ⟨k - 1, by omega⟩
    simp only [impl_readVar.l0]
    rw [if_neg (by omega)]
    simp [rdv]
  | succ d ih =>
    intro k j n hj hn0 hn hk
    obtain ⟨k, rfl⟩ : ∃ m, k = m + 1 := ⟨k - 1, by omega⟩
    simp only [impl_readVar.l0]
    rw [if_pos (by omega), impl_within_v, Option.bind_some, w64 (x := (l.length : Int) - 1) (by omega) (by omega), w64 (x := (l.length : Int) - 1 - j) (by omega) (by omega)]
    by_cases hin : 0 ≤ a ∧ a + (j : Int) < (l.length : Int)
    · have hx := rd_byt hb (a + (j : Int))
      have hs := var_step (j := j) n (rd l (a + (j : Int)) % 128) hn0 hn (by omega) (by omega)
      rw [if_pos (decide_eq_true (by omega)), w64 (x := a + (j : Int)) (by omega) (by omega), if_pos (by omega), if_pos (by omega), w64 (x := 7 * (j : Int)) (by omega) (by omega), if_pos (by omega), w64 (x := rd l (a + (j : Int))) (by omega) (by omega),
        and127 hx.1 hx.2, shl7 (by omega) (by omega) (by omega), orVar (by omega) hn0 hn (by omega) (by omega)]
      rw [rdv, if_pos hin]
      by_cases h128 : rd l (a + (j : Int)) < 128
      · rw [if_pos h128, if_pos h128]
        have e : rd l (a + (j : Int)) % 128 = rd l (a + (j : Int)) := by omega
        rw [e, w64 (x := a + (j : Int) + 1) (by omega) (by omega)]
        by_cases hj0 : (j : Int) = 0
        · rw [if_pos hj0]
          have hd : decide (j = 0 ∨ 0 < rd l (a + (j : Int))) = true := decide_eq_true (Or.inl (by omega))
          rw [hd]
        · rw [if_neg hj0]
          have hj1 : ¬ j = 0 := by omega
          simp [hj1]
      · rw [if_neg h128, if_neg h128]
        have e : rd l (a + (j : Int)) % 128 = rd l (a + (j : Int)) - 128 := by omega
        rw [e] at hs ⊢
        rw [w64 (x := (j : Int) + 1) (by omega) (by omega)]
        exact ih k (j + 1) _ (by omega) hs.1 hs.2 (by omega)
    · rw [if_neg (by simp; omega), rdv, if_neg hin]
theorem impl_readVar_v {k : Nat} {l : List Int} (hb : Byt l) (hl : l.length ≤ 140737488351232) {a : Int} (ha0 : -9223372036854775808 ≤ a) (ha1 : a ≤ 9223372036854775807) {most : Nat} (hm : most ≤ 8) (hk : 20 < k) : impl_readVar.f k l a (most : Int) = some (rdv l a most 0 0) := by
  unfold impl_readVar.f
  exact impl_readVar_l l hb hl a ha0 ha1 most hm most k 0 0 (by omega) (by omega) (by decide) (by omega)

theorem impl_GetVar_v {k : Nat} {l : List Int} (hb : Byt l) (hl : l.length ≤ 140737488351232) {a : Int} (ha0 : -9223372036854775808 ≤ a) (ha1 : a ≤ 9223372036854775807) (hk : 20 < k) : impl_GetVar.f k l a = some (getVar l a) := by
  unfold impl_GetVar.f getVar
  have h := impl_readVar_v hb hl ha0 ha1 (by omega : 6 ≤ 8) hk
  rw [show ((6 : Nat) : Int) = 6 from rfl] at h
  rw [h, Option.bind_some]
  generalize rdv l a 6 0 0 = r
  by_cases h1 : r.2.2 = true
  · rw [if_pos h1]
    by_cases h2 : r.1 > 1000000000000
    · rw [if_pos h2, if_neg (by omega)]
    · rw [if_neg h2, if_pos ⟨h1, by omega⟩, ← h1]
  · rw [if_neg h1, if_neg (fun h => h1 h.1)]

theorem impl_cloned_v {l : List Int} (hl : l.length ≤ 140737488351232) : impl_cloned.f l = some l := by
  unfold impl_cloned.f
  rw [if_pos (by omega), if_pos (by omega)]
  simp only [List.replicate_zero, Option.bind_some, List.nil_append, List.length_nil]
  rw [if_pos (by omega)]

theorem impl_Slice_v {l : List Int} (hl : l.length ≤ 140737488351232) (a n : Int) : impl_Slice.f l a n = some (sliceB l a n) := by
  unfold impl_Slice.f sliceB
  rw [impl_within_v, Option.bind_some]
  by_cases h0 : 0 ≤ a ∧ a ≤ (l.length : Int)
  · rw [decide_eq_true h0, if_pos rfl, impl_within_v, Option.bind_some, w64 (x := (l.length : Int) - a) (by omega) (by omega)]
    by_cases h1 : 0 ≤ n ∧ n ≤ (l.length : Int) - a
    · rw [decide_eq_true h1, if_pos rfl, w64 (x := a + n) (by omega) (by omega), if_pos (by omega), if_pos (by omega), if_pos (by omega), impl_cloned_v (by simp; omega), if_pos ⟨by omega, by omega, by omega, by omega⟩]
      rfl
    · rw [decide_eq_false h1, if_neg (by decide), if_neg (by omega)]
  · rw [decide_eq_false h0, if_neg (by decide), if_neg (by omega)]

theorem spec_GetPart_v {k : Nat} {l : List Int} (hb : Byt l) (hl : l.length ≤ 140737488351232) {a : Int} (ha0 : -9223372036854775808 ≤ a) (ha1 : a ≤ 9223372036854775807) (m : Int) (hk : 20 < k) : spec_GetPart.f k l a m = some (getPart l a m) := by
  unfold spec_GetPart.f getPart
  rw [spec_GetVar_v hb hl ha0 ha1 hk, Option.bind_some]
  have hg := getVar_range hb hl a
  generalize getVar l a = r at hg ⊢
  by_cases h1 : r.2.2 = true
  · obtain ⟨g0, g1, g2, g3⟩ := hg h1
    rw [if_pos h1]
    by_cases h2 : r.1 > m
    · rw [if_pos h2, if_neg (by omega)]
    · rw [if_neg h2, w64 (x := (l.length : Int) - r.2.1) (by omega) (by omega)]
      by_cases h3 : r.1 > (l.length : Int) - r.2.1
      · rw [if_pos h3, if_neg (by omega)]
      · rw [if_neg h3, w64 (x := r.2.1 + r.1) (by omega) (by omega)]
        simp only [Option.bind_some, List.length_nil, List.nil_append]
        rw [if_pos (by omega), if_pos (by omega), if_pos (by omega), if_pos (by simp; omega), if_pos ⟨h1, by omega, by omega⟩]
  · rw [if_neg h1, if_neg (fun h => h1 h.1)]

theorem impl_GetPart_v {k : Nat} {l : List Int} (hb : Byt l) (hl : l.length ≤ 140737488351232) {a : Int} (ha0 : -9223372036854775808 ≤ a) (ha1 : a ≤ 9223372036854775807) (m : Int) (hk : 20 < k) : impl_GetPart.f k l a m = some (getPart l a m) := by
  unfold impl_GetPart.f getPart
  rw [impl_GetVar_v hb hl ha0 ha1 hk, Option.bind_some]
  have hg := getVar_range hb hl a
  generalize getVar l a = r at hg ⊢
  obtain ⟨k, rfl⟩ : ∃ m, k = m + 1 := ⟨k - 1, by omega⟩
  by_cases h1 : r.2.2 = true
  · obtain ⟨g0, g1, g2, g3⟩ := hg h1
    rw [if_pos h1]
    simp only [impl_GetPart.j0]
    by_cases h2 : r.1 > m
    · rw [if_pos (decide_eq_true h2), if_neg (by omega)]
    · rw [if_neg (by simp; omega), impl_Slice_v hl, Option.bind_some]
      by_cases h3 : r.1 > (l.length : Int) - r.2.1
      · rw [sliceB_no (by omega), if_neg (by decide), if_neg (by omega)]
      · rw [sliceB_yes (by omega) (by omega) (by omega) (by omega), if_pos rfl, if_pos ⟨h1, by omega, by omega⟩]
        rw [w64 (x := r.2.1 + r.1) (by omega) (by omega)]
  · rw [if_neg h1, if_neg (fun h => h1 h.1)]
    simp only [impl_GetPart.j0, if_true]

theorem FnExactGetPart : laws_FnExactGetPart.Pure := by
  intro l a m hm hr hw ha _
  have ha := wf_i64 ha
  have hb : Byt l := fun x hx => wf_u8 (hw x hx)
  refine exists_ge 1048680 _ (fun k hk => ?_)
  unfold laws_FnExactGetPart.f
  by_cases hbig : (l.length : Int) > 1048576
  · rw [if_pos hbig]
  · rw [if_neg hbig]
    have hs := getPart_length l a m
    have h1 := fun (j : Nat) (hj : 20 < j) => spec_GetPart_v (k := j) hb (by omega) ha.1 ha.2 m hj
    have h2 := fun (j : Nat) (hj : 20 < j) => impl_GetPart_v (k := j) hb (by omega) ha.1 ha.2 m hj
    obtain ⟨k, rfl⟩ : ∃ m, k = m + 3 := ⟨k - 3, by omega⟩
    have n1 : ¬ (1 + (l.length : Int) < 0) := by omega
    have n2 : ¬ (1 + ((getPart l a m).1.length : Int) < 0) := by omega
    simp (disch := omega) only [laws_toByteS_v, h1, h2, laws_eqByteS_v, laws_markByteS_v, laws_heldByteS_v, n1, n2, Option.bind_some, decide_true, if_true, if_false, bne_self_eq_false, Bool.false_eq_true, Bool.not_true, Bool.not_false]
    simp only [laws_FnExactGetPart.j0, Bool.false_eq_true, if_false]
    simp (disch := omega) only [laws_toByteS_v, h1, h2, laws_eqByteS_v, laws_markByteS_v, laws_heldByteS_v, n1, n2, Option.bind_some, decide_true, if_true, if_false, bne_self_eq_false, Bool.false_eq_true, Bool.not_true, Bool.not_false]
    simp only [laws_FnExactGetPart.j1, Bool.false_eq_true, if_false]
    simp (disch := omega) only [laws_toByteS_v, h1, h2, laws_eqByteS_v, laws_markByteS_v, laws_heldByteS_v, n1, n2, Option.bind_some, decide_true, if_true, if_false, bne_self_eq_false, Bool.false_eq_true, Bool.not_true, Bool.not_false]
    simp only [laws_FnExactGetPart.j2, Bool.false_eq_true, if_false]
    simp (disch := omega) only [laws_toByteS_v, h1, h2, laws_eqByteS_v, laws_markByteS_v, laws_heldByteS_v, n1, n2, Option.bind_some, decide_true, if_true, if_false, bne_self_eq_false, Bool.false_eq_true, Bool.not_true, Bool.not_false]

end Go.Proofs.Ytbhpnckebecffaa.Pure
