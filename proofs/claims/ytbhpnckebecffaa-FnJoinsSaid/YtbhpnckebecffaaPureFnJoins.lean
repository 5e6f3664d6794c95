/- For all draws: the checksum of a concatenation is determined by both checksums; no condition. -/
import Derived.Test.YtbhpnckebecffaaPFnJoinsx3
import Derived.Test.YtbhpnckebecffaaLib
set_option linter.unusedVariables false
set_option linter.unusedSimpArgs false
namespace Go.Proofs.Ytbhpnckebecffaa.Pure
open Go.RowKit Go.Proofs.Ytbhpnckebecffaa.PFnJoins Go.Proofs.YtbhpnckebecffaaW.PrintWords Go.Proofs.YtbhpnckebecffaaW.PrintLast Go.Proofs.YtbhpnckebecffaaW.PrintMore Go.Proofs.Ytbhpnckebecffaa.Lib

theorem spec_l1In_v (a b c : Int) : spec_l1In.f a b c = some (decide (b ≤ a ∧ a ≤ c)) := by
  unfold spec_l1In.f
  by_cases h : b ≤ a
  · rw [if_pos h]; simp [h]
  · rw [if_neg h]; simp [h]

theorem impl_within_v (a b c : Int) : impl_within.f a b c = some (decide (b ≤ a ∧ a ≤ c)) := by
  unfold impl_within.f
  by_cases h : b ≤ a
  · rw [if_pos h]; simp [h]
  · rw [if_neg h]; simp [h]

theorem spec_Wrap_v {a m : Int} (h0 : 1 ≤ m) (h1 : m ≤ 1000000000000) : spec_Wrap.f a m = some (a % m) := by
  unfold spec_Wrap.f
  rw [spec_l1In_v, Option.bind_some, decide_eq_true (by omega), if_pos rfl, if_neg (by omega)]
  have h2 : a.tmod m = a - m * a.tdiv m := by have := Int.mul_tdiv_add_tmod a m; omega
  have h3 : -m < a.tmod m ∧ a.tmod m < m := ⟨by have := Int.lt_tmod_of_pos a (by omega : 0 < m); omega, Int.tmod_lt_of_pos a (by omega)⟩
  rw [w64 (by omega) (by omega), tmod_nn (by omega), Int.add_emod_right, h2, Int.sub_mul_emod_self_left]

theorem impl_Wrap_v {a m : Int} (h0 : 1 ≤ m) (h1 : m ≤ 1000000000000) : impl_Wrap.f a m = some (a % m) := by
  unfold impl_Wrap.f
  rw [impl_within_v, Option.bind_some, decide_eq_true (by omega), if_pos rfl, if_neg (by omega)]
  have h2 : a.tmod m = a - m * a.tdiv m := by have := Int.mul_tdiv_add_tmod a m; omega
  have h3 : -m < a.tmod m ∧ a.tmod m < m := ⟨by have := Int.lt_tmod_of_pos a (by omega : 0 < m); omega, Int.tmod_lt_of_pos a (by omega)⟩
  rw [w64 (by omega) (by omega), tmod_nn (by omega), Int.add_emod_right, h2, Int.sub_mul_emod_self_left]

theorem impl_weak_v (x y : Int) : impl_weak.f x y = some (x % 251 + 251 * (y % 251)) := by
  unfold impl_weak.f
  rw [impl_Wrap_v (by omega) (by omega), impl_Wrap_v (by omega) (by omega)]
  simp only [Option.bind_some]
  rw [w64 (x := 251 * (y % 251)) (by omega) (by omega), w64 (by omega) (by omega)]

theorem spec_WeakOf_l (l : List Int) (hb : Byt l) (hl : l.length ≤ 140737488351232) (d : Nat) : ∀ (k : Nat) (i : Nat), i ≤ l.length → l.length - i = d → d < k →
    spec_WeakOf.l0 k l (sx (l.take i) % 251) (sy (l.take i) % 251) (i : Int) = some (weakOf l) := by
  induction d with
  | zero =>
    intro k i hi hd hk
    obtain ⟨k, rfl⟩ : ∃ m, k = m + 1 := ⟨k - 1, by omega⟩
    simp only [spec_WeakOf.l0]
    rw [if_neg (by omega), List.take_of_length_le (by omega), w64 (x := 251 * (sy l % 251)) (by omega) (by omega), w64 (by omega) (by omega)]
    rfl
  | succ d ih =>
    intro k i hi hd hk
    obtain ⟨k, rfl⟩ : ∃ m, k = m + 1 := ⟨k - 1, by omega⟩
    simp only [spec_WeakOf.l0]
    have hc := hb l[i] (List.getElem_mem (by omega))
    rw [if_pos (by omega), if_pos (by omega), wnat (by omega), rd_at (by omega : i < l.length), w64 (x := l[i]) (by omega) (by omega), w64 (by omega) (by omega), tmod_nn (by omega), w64 (by omega) (by omega), tmod_nn (by omega)]
    have e : l.take (i + 1) = l.take i ++ [l[i]] := List.take_succ_eq_append_getElem (by omega)
    have := ih k (i + 1) (by omega) (by omega) (by omega)
    rw [e, sx_snoc, sy_snoc] at this
    rw [show (sx (l.take i) % 251 + l[i]) % 251 = (sx (l.take i) + l[i]) % 251 from by omega, show (sy (l.take i) % 251 + (sx (l.take i) + l[i]) % 251) % 251 = (sy (l.take i) + sx (l.take i) + l[i]) % 251 from by omega]
    exact this
theorem spec_WeakOf_v {k : Nat} {l : List Int} (hb : Byt l) (hl : l.length ≤ 140737488351232) (hk : l.length < k) : spec_WeakOf.f k l = some (weakOf l) := by
  unfold spec_WeakOf.f
  exact spec_WeakOf_l l hb hl l.length k 0 (by omega) (by omega) hk

theorem impl_WeakOf_l (l : List Int) (hb : Byt l) (hl : l.length ≤ 140737488351232) (d : Nat) : ∀ (k : Nat) (i : Nat), i ≤ l.length → l.length - i = d → d < k →
    impl_WeakOf.l0 k (sx (l.take i) % 251) (sy (l.take i) % 251) l (l.length : Int) (i : Int) = some (weakOf l) := by
  induction d with
  | zero =>
    intro k i hi hd hk
    obtain ⟨k, rfl⟩ : ∃ m, k = m + 1 := ⟨k - 1, by omega⟩
    simp only [impl_WeakOf.l0]
    rw [if_neg (by omega), impl_weak_v, List.take_of_length_le (by omega)]
    simp only [Option.bind_some, weakOf, Int.emod_emod]
  | succ d ih =>
    intro k i hi hd hk
    obtain ⟨k, rfl⟩ : ∃ m, k = m + 1 := ⟨k - 1, by omega⟩
    simp only [impl_WeakOf.l0]
    have hc := hb l[i] (List.getElem_mem (by omega))
    rw [if_pos (by omega), if_pos (by omega), if_pos (by omega), wnat (by omega), rd_at (by omega : i < l.length), w64 (x := l[i]) (by omega) (by omega), w64 (by omega) (by omega), tmod_nn (by omega), w64 (by omega) (by omega), tmod_nn (by omega)]
    have e : l.take (i + 1) = l.take i ++ [l[i]] := List.take_succ_eq_append_getElem (by omega)
    have := ih k (i + 1) (by omega) (by omega) (by omega)
    rw [e, sx_snoc, sy_snoc] at this
    rw [show (sx (l.take i) % 251 + l[i]) % 251 = (sx (l.take i) + l[i]) % 251 from by omega, show (sy (l.take i) % 251 + (sx (l.take i) + l[i]) % 251) % 251 = (sy (l.take i) + sx (l.take i) + l[i]) % 251 from by omega]
    exact this
theorem impl_WeakOf_v {k : Nat} {l : List Int} (hb : Byt l) (hl : l.length ≤ 140737488351232) (hk : l.length < k) : impl_WeakOf.f k l = some (weakOf l) := by
  unfold impl_WeakOf.f
  exact impl_WeakOf_l l hb hl l.length k 0 (by omega) (by omega) hk

theorem spec_l3Ok_v (w : Int) : spec_l3Ok.f w = some (weakOk w) := by
  unfold spec_l3Ok.f weakOk; rw [spec_l1In_v]; rfl

theorem impl_isWeak_v (w : Int) : impl_isWeak.f w = some (weakOk w) := by
  unfold impl_isWeak.f weakOk; rw [impl_within_v]; rfl

theorem spec_WeakHalves_v (w : Int) : spec_WeakHalves.f w = some (weakHalves w) := by
  unfold spec_WeakHalves.f weakHalves
  rw [spec_l3Ok_v, Option.bind_some]
  by_cases h : weakOk w = true
  · have h' : 0 ≤ w ∧ w ≤ 63000 := of_decide_eq_true h
    rw [if_pos h, if_pos h, tmod_nn h'.1, tdiv_nn h'.1, w64 (by omega) (by omega)]
  · rw [if_neg h, if_neg h]

theorem impl_WeakHalves_v (w : Int) : impl_WeakHalves.f w = some (weakHalves w) := by
  unfold impl_WeakHalves.f weakHalves
  rw [impl_isWeak_v, Option.bind_some]
  by_cases h : weakOk w = true
  · have h' : 0 ≤ w ∧ w ≤ 63000 := of_decide_eq_true h
    rw [if_pos h, if_pos h, tmod_nn h'.1, tdiv_nn h'.1, w64 (by omega) (by omega)]
  · rw [if_neg h, if_neg h]

theorem spec_WeakJoin_v {k : Nat} (a b n : Int) (hk : 1 < k) : spec_WeakJoin.f k a b n = some (weakJoin a b n) := by
  obtain ⟨k, rfl⟩ : ∃ m, k = m + 1 := ⟨k - 1, by omega⟩
  unfold spec_WeakJoin.f weakJoin
  simp only [spec_WeakJoin.j0, spec_l3Ok_v, spec_l1In_v, Option.bind_some, weakOk]
  by_cases ha : 0 ≤ a ∧ a ≤ 63000
  · by_cases hb : 0 ≤ b ∧ b ≤ 63000
    · by_cases hn : 0 ≤ n ∧ n ≤ 1000000000000
      · have hm := mul_bd (a := n % 251) (b := a % 251) (A := 250) (B := 250) (by omega) (by omega) (by omega) (by omega)
        rw [decide_eq_true ha, decide_eq_true hb, decide_eq_true hn, if_pos rfl, if_pos rfl, if_neg (by decide), if_pos ⟨ha.1, ha.2, hb.1, hb.2, hn.1, hn.2⟩]
        simp only [spec_WeakHalves_v, Option.bind_some, weakHalves, weakOk, decide_eq_true ha, decide_eq_true hb, if_true]
        rw [tmod_nn hn.1, w64 (x := a % 251 + b % 251) (by omega) (by omega), w64 (x := n % 251 * (a % 251)) (by omega) (by omega), w64 (x := a / 251 + n % 251 * (a % 251)) (by omega) (by omega), w64 (x := a / 251 + n % 251 * (a % 251) + b / 251) (by omega) (by omega),
          spec_Wrap_v (by omega) (by omega), spec_Wrap_v (by omega) (by omega)]
        simp only [Option.bind_some]
        generalize (a / 251 + n % 251 * (a % 251) + b / 251) = z
        rw [w64 (x := 251 * (z % 251)) (by omega) (by omega), w64 (by omega) (by omega)]
      · rw [decide_eq_true ha, decide_eq_true hb, decide_eq_false hn, if_pos rfl, if_pos rfl, if_pos (by decide), if_neg (fun h => hn ⟨h.2.2.2.2.1, h.2.2.2.2.2⟩)]
    · rw [decide_eq_true ha, decide_eq_false hb, if_pos rfl, if_neg (by decide), if_pos trivial, if_neg (fun h => hb ⟨h.2.2.1, h.2.2.2.1⟩)]
  · rw [decide_eq_false ha, if_neg (by decide), if_pos trivial, if_neg (fun h => ha ⟨h.1, h.2.1⟩)]

theorem impl_WeakJoin_v {k : Nat} (a b n : Int) (hk : 1 < k) : impl_WeakJoin.f k a b n = some (weakJoin a b n) := by
  obtain ⟨k, rfl⟩ : ∃ m, k = m + 1 := ⟨k - 1, by omega⟩
  unfold impl_WeakJoin.f weakJoin
  simp only [impl_WeakJoin.j0, impl_isWeak_v, impl_within_v, Option.bind_some, weakOk]
  by_cases ha : 0 ≤ a ∧ a ≤ 63000
  · by_cases hb : 0 ≤ b ∧ b ≤ 63000
    · by_cases hn : 0 ≤ n ∧ n ≤ 1000000000000
      · have hm := mul_bd (a := n % 251) (b := a % 251) (A := 250) (B := 250) (by omega) (by omega) (by omega) (by omega)
        rw [decide_eq_true ha, decide_eq_true hb, decide_eq_true hn, if_pos rfl, if_pos rfl, if_neg (by decide), if_pos ⟨ha.1, ha.2, hb.1, hb.2, hn.1, hn.2⟩]
        simp only [impl_WeakHalves_v, Option.bind_some, weakHalves, weakOk, decide_eq_true ha, decide_eq_true hb, if_true]
        rw [tmod_nn hn.1, w64 (x := a % 251 + b % 251) (by omega) (by omega), w64 (x := n % 251 * (a % 251)) (by omega) (by omega), w64 (x := a / 251 + n % 251 * (a % 251)) (by omega) (by omega), w64 (x := a / 251 + n % 251 * (a % 251) + b / 251) (by omega) (by omega),
          impl_weak_v]
        rfl
      · rw [decide_eq_true ha, decide_eq_true hb, decide_eq_false hn, if_pos rfl, if_pos rfl, if_pos (by decide), if_neg (fun h => hn ⟨h.2.2.2.2.1, h.2.2.2.2.2⟩)]
    · rw [decide_eq_true ha, decide_eq_false hb, if_pos rfl, if_neg (by decide), if_pos trivial, if_neg (fun h => hb ⟨h.2.2.1, h.2.2.2.1⟩)]
  · rw [decide_eq_false ha, if_neg (by decide), if_pos trivial, if_neg (fun h => ha ⟨h.1, h.2.1⟩)]

theorem laws_big_v (l : List Int) : laws_big.f l = some (decide ((l.length : Int) > 1048576)) := rfl

theorem spec_l1New_l (b : List Int) (hb : b.length ≤ 1048576) (d : Nat) : ∀ (k i : Nat) (h : Int), i ≤ b.length → b.length - i = d → d < k → ∃ h', spec_l1New.l0 k b h (i : Int) = some (b, 0, h') := by
  induction d with
  | zero =>
    intro k i h hi hd hk
    obtain ⟨k, rfl⟩ : ∃ m, k = m + 1 := ⟨k - 1, by omega⟩
    simp only [spec_l1New.l0]
    rw [if_neg (by omega)]
    exact ⟨_, rfl⟩
  | succ d ih =>
    intro k i h hi hd hk
    obtain ⟨k, rfl⟩ : ∃ m, k = m + 1 := ⟨k - 1, by omega⟩
    simp only [spec_l1New.l0]
    rw [if_pos (by omega)]
    by_cases h4 : (i : Int) < 4000
    · rw [if_pos h4, if_pos (by omega), wnat (by omega)]
      exact ih k (i + 1) _ (by omega) (by omega) (by omega)
    · rw [if_neg h4]; exact ⟨_, rfl⟩
theorem spec_l1New_x {k : Nat} {b : List Int} (hb : b.length ≤ 1048576) (hk : b.length < k) : ∃ h', spec_l1New.f k b = some (b, 0, h') := by
  unfold spec_l1New.f
  exact spec_l1New_l b hb b.length k 0 _ (by omega) (by omega) hk
theorem cur_start {b : List Int} (hb : b.length ≤ 1048576) : Cur b 0 := ⟨hb, by omega, by omega⟩

theorem spec_l1Byte_x {b : List Int} {i : Int} (hc : Cur b i) (h : Int) : ∃ r i' h', spec_l1Byte.f b i h = some (r, i', h') ∧ 0 ≤ r ∧ r ≤ 255 ∧ Cur b i' := by
  obtain ⟨h0, h1, h2⟩ := hc
  unfold spec_l1Byte.f
  by_cases hi : i < (b.length : Int)
  · rw [if_pos hi, if_pos h1, w64 (x := i + 1) (by omega) (by omega)]
    exact ⟨_, _, _, rfl, (and_le _).1, (and_le _).2, h0, by omega, by omega⟩
  · rw [if_neg hi]
    exact ⟨_, _, _, rfl, (and_le _).1, (and_le _).2, h0, h1, h2⟩

theorem spec_l1Below_x {b : List Int} {i : Int} (hc : Cur b i) (h : Int) (n : Int) : ∃ r i' h', spec_l1Below.f b i h n = some (r, i', h') ∧ 0 ≤ r ∧ (n ≤ 0 → r = 0) ∧ (0 < n → r < n) ∧ Cur b i' := by
  unfold spec_l1Below.f
  by_cases hn : n ≤ 0
  · rw [if_pos hn]
    exact ⟨_, _, _, rfl, by omega, fun _ => rfl, fun h => by omega, hc⟩
  · rw [if_neg hn]
    by_cases h256 : n ≤ 256
    · rw [if_pos h256]
      obtain ⟨r, i', h', e, r0, r1, hc'⟩ := spec_l1Byte_x hc h
      rw [e, Option.bind_some, if_neg (by omega)]
      refine ⟨_, _, _, rfl, ?_, fun h => by omega, fun _ => ?_, hc'⟩ <;> dsimp only <;> rw [tmod_nn r0]
      · exact Int.emod_nonneg _ (by omega)
      · exact Int.emod_lt_of_pos _ (by omega)
    · rw [if_neg h256]
      obtain ⟨r, i', h', e, r0, r1, hc'⟩ := spec_l1Byte_x hc h
      obtain ⟨s, i'', h'', e', s0, s1, hc''⟩ := spec_l1Byte_x hc' h'
      obtain ⟨t, i3, h3, e3, t0, t1, hc3⟩ := spec_l1Byte_x hc'' h''
      rw [e, Option.bind_some, e', Option.bind_some, e3, Option.bind_some, if_neg (by omega)]
      refine ⟨_, _, _, rfl, ?_, fun h => by omega, fun _ => ?_, hc3⟩ <;> dsimp only <;> rw [w64 (x := r * 65536) (by omega) (by omega), w64 (x := s * 256) (by omega) (by omega), w64 (x := r * 65536 + s * 256) (by omega) (by omega), w64 (x := r * 65536 + s * 256 + t) (by omega) (by omega), tmod_nn (by omega)]
      · exact Int.emod_nonneg _ (by omega)
      · exact Int.emod_lt_of_pos _ (by omega)

theorem spec_l1Int_x {b : List Int} {i : Int} (hc : Cur b i) (h : Int) {l : List Int} (hl : 0 < l.length) : ∃ r i' h', spec_l1Int.f b i h l = some (r, i', h') ∧ r ∈ l ∧ Cur b i' := by
  unfold spec_l1Int.f
  obtain ⟨r, i', h', e, r0, r1, r2, hc'⟩ := spec_l1Below_x hc h (l.length : Int)
  have := r2 (by omega)
  rw [e, Option.bind_some, if_pos r0, if_pos this]
  refine ⟨_, _, _, rfl, ?_, hc'⟩
  obtain ⟨m, rfl⟩ := Int.eq_ofNat_of_zero_le r0
  dsimp only
  rw [rd_at (by omega : m < l.length)]
  exact List.getElem_mem _

theorem spec_l1Once_x {b : List Int} {i : Int} (hc : Cur b i) (h : Int) (n : Int) : ∃ (r : Bool) (i' h' : Int), spec_l1Once.f b i h n = some (r, i', h') ∧ Cur b i' := by
  unfold spec_l1Once.f
  obtain ⟨r, i', h', e, r0, r1, r2, hc'⟩ := spec_l1Below_x hc h n
  rw [e, Option.bind_some]
  exact ⟨_, _, _, rfl, hc'⟩

theorem spec_l3Bytes_l {b : List Int} (d : Nat) : ∀ (k : Nat) (acc : List Int) (i h : Int), Cur b i → Byt acc → acc.length + d ≤ 1000000 → d < k →
    ∃ r i' h', spec_l3Bytes.l0 k acc (d : Int) b i h = some (r, i', h') ∧ Byt r ∧ r.length = acc.length + d ∧ Cur b i' := by
  induction d with
  | zero =>
    intro k acc i h hc hb ha hk
    obtain ⟨k, rfl⟩ : ∃ m, k = m + 1 := ⟨k - 1, by omega⟩
    simp only [spec_l3Bytes.l0]
    rw [if_neg (by omega)]
    exact ⟨_, _, _, rfl, hb, rfl, hc⟩
  | succ d ih =>
    intro k acc i h hc hb ha hk
    obtain ⟨k, rfl⟩ : ∃ m, k = m + 1 := ⟨k - 1, by omega⟩
    simp only [spec_l3Bytes.l0]
    obtain ⟨r, i', h', e, hr, hc'⟩ := spec_l1Int_x hc h (l := [97, 98, 99, 0, 255]) (by decide)
    have hr2 : 0 ≤ r ∧ r ≤ 255 := by
      simp only [List.mem_cons, List.not_mem_nil, or_false] at hr
      omega
    rw [if_pos (by omega), e, Option.bind_some, if_pos (by omega), mod256 hr2.1 hr2.2, w64 (by omega) (by omega), show ((d + 1 : Nat) : Int) - 1 = (d : Int) from by omega]
    obtain ⟨r2, i2, h2, e2, b2, l2, c2⟩ := ih k (acc ++ [r]) i' h' hc' (byt_snoc.2 ⟨hb, hr2⟩) (by simp; omega) (by omega)
    exact ⟨r2, i2, h2, e2, b2, by rw [l2]; simp; omega, c2⟩
theorem spec_l3Bytes_x {k : Nat} {b : List Int} {i : Int} (hc : Cur b i) (h : Int) {n : Int} (h0 : 0 ≤ n) (h1 : n ≤ 1000) (hk : 2000 < k) : ∃ r i' h', spec_l3Bytes.f k b i h n = some (r, i', h') ∧ Byt r ∧ (r.length : Int) ≤ n ∧ Cur b i' := by
  unfold spec_l3Bytes.f
  rw [w64 (by omega) (by omega)]
  obtain ⟨r, i', h', e, r0, r1, r2, hc'⟩ := spec_l1Below_x hc h (n + 1)
  have := r2 (by omega)
  rw [e, Option.bind_some]
  obtain ⟨m, rfl⟩ := Int.eq_ofNat_of_zero_le r0
  obtain ⟨r2, i2, h2, e2, b2, l2, c2⟩ := spec_l3Bytes_l m k [] i' h' hc' byt_nil (by simp; omega) (by omega)
  exact ⟨r2, i2, h2, e2, b2, by rw [l2]; simp; omega, c2⟩

theorem spec_DrawWeakOf_x {k : Nat} {b : List Int} (hb : b.length ≤ 1048576) (hk : 1049000 < k) : ∃ r, spec_DrawWeakOf.f k b = some r ∧ Byt r ∧ r.length ≤ 12 := by
  unfold spec_DrawWeakOf.f
  obtain ⟨h, e⟩ := spec_l1New_x (k := k) hb (by omega)
  obtain ⟨r, i', h', e', rb, rl, hc⟩ := spec_l3Bytes_x (k := k) (cur_start hb) h (by omega : (0 : Int) ≤ 12) (by omega) (by omega)
  rw [e, Option.bind_some, e', Option.bind_some]
  exact ⟨r, rfl, rb, by omega⟩

theorem spec_l3Weak_x {k : Nat} {b : List Int} {i : Int} (hc : Cur b i) (h : Int) (hk : 2000 < k) : ∃ r i' h', spec_l3Weak.f k b i h = some (r, i', h') ∧ -1 ≤ r ∧ r ≤ 63001 ∧ Cur b i' := by
  unfold spec_l3Weak.f
  obtain ⟨r, i', h', e, hc'⟩ := spec_l1Once_x hc h 8
  rw [e, Option.bind_some]
  cases r with
  | true =>
    obtain ⟨r, i2, h2, e2, hr, c2⟩ := spec_l1Int_x hc' h' (l := [(-1), 63000, 63001]) (by decide)
    rw [if_pos rfl, e2, Option.bind_some]
    simp only [List.mem_cons, List.not_mem_nil, or_false] at hr
    exact ⟨_, _, _, rfl, by first | omega | (dsimp only; omega), by first | omega | (dsimp only; omega), c2⟩
  | false =>
    obtain ⟨r, i2, h2, e2, rb, rl, c2⟩ := spec_l3Bytes_x (k := k) hc' h' (by omega : (0 : Int) ≤ 6) (by omega) (by omega)
    simp only [Bool.false_eq_true, if_false]
    rw [e2, Option.bind_some, spec_WeakOf_v rb (by omega) (by omega), Option.bind_some]
    have := weakOf_range r
    exact ⟨_, _, _, rfl, by first | omega | (dsimp only; omega), by first | omega | (dsimp only; omega), c2⟩

theorem spec_DrawWeakJoin_x {k : Nat} {b : List Int} (hb : b.length ≤ 1048576) (hk : 1049000 < k) : ∃ x y z, spec_DrawWeakJoin.f k b = some (x, y, z) := by
  unfold spec_DrawWeakJoin.f
  obtain ⟨h, e⟩ := spec_l1New_x (k := k) hb (by omega)
  obtain ⟨r, i', h', e', _, _, hc⟩ := spec_l3Weak_x (k := k) (cur_start hb) h (by omega)
  obtain ⟨r2, i2, h2, e2, _, _, hc2⟩ := spec_l3Weak_x (k := k) hc h' (by omega)
  obtain ⟨r3, i3, h3, e3, _, _, _, hc3⟩ := spec_l1Below_x hc2 h2 8
  rw [e, Option.bind_some, e', Option.bind_some, e2, Option.bind_some, e3, Option.bind_some]
  exact ⟨_, _, _, rfl⟩

theorem laws_at_x {l : List Int} (hb : Byt l) (hl : l.length ≤ 1048576) {i : Int} (h0 : 0 ≤ i) (h1 : i ≤ 1000000) : ∃ r, laws_at.f l i = some r ∧ 0 ≤ r ∧ r ≤ 255 := by
  unfold laws_at.f
  by_cases h : i < (l.length : Int)
  · have := rd_byt hb i
    rw [if_pos h, if_pos h0, w64 (by omega) (by omega)]
    exact ⟨_, rfl, this⟩
  · rw [if_neg h, w64 (x := i * 31) (by omega) (by omega), w64 (x := (l.length : Int) * 7) (by omega) (by omega), w64 (by omega) (by omega), tmod_nn (by omega)]
    exact ⟨_, rfl, by omega, by omega⟩

theorem FnJoins : laws_FnJoins.Pure := by
  intro l hm hr hw
  have hb : Byt l := fun x hx => wf_u8 (hw x hx)
  refine exists_ge 1050000 _ (fun k hk => ?_)
  unfold laws_FnJoins.f
  rw [laws_big_v, Option.bind_some]
  by_cases hbig : (l.length : Int) > 1048576
  · rw [if_pos (decide_eq_true hbig)]
  · rw [if_neg (by simpa using hbig)]
    obtain ⟨b, e1, bb, bl⟩ := spec_DrawWeakOf_x (k := k) (b := l) (by omega) (by omega)
    obtain ⟨x, y, z, e2⟩ := spec_DrawWeakJoin_x (k := k) (b := l) (by omega) (by omega)
    obtain ⟨r, e3, r0, r1⟩ := laws_at_x hb (by omega : l.length ≤ 1048576) (by omega : (0 : Int) ≤ 2) (by omega)
    rw [e1, Option.bind_some, e2, Option.bind_some]
    have fin : ∀ t : Int, 0 ≤ t → t ≤ (b.length : Int) → laws_FnJoins.j0 k b x y z t = some true := by
      intro t t0 t1
      obtain ⟨k, rfl⟩ : ∃ m, k = m + 2 := ⟨k - 2, by omega⟩
      obtain ⟨m, rfl⟩ := Int.eq_ofNat_of_zero_le t0
      simp only [laws_FnJoins.j0]
      rw [impl_WeakJoin_v _ _ _ (by omega), Option.bind_some, spec_WeakJoin_v _ _ _ (by omega), Option.bind_some, if_pos rfl, impl_WeakOf_v bb (by omega) (by omega), Option.bind_some, spec_WeakOf_v bb (by omega) (by omega), Option.bind_some, bne_self_eq_false]
      simp only [laws_FnJoins.j1, Bool.false_eq_true, if_false]
      rw [if_pos t0, if_pos t1, Int.toNat_natCast, impl_WeakOf_v (byt_take bb _) (by simp; omega) (by simp; omega), Option.bind_some, impl_WeakOf_v (byt_drop bb _) (by simp; omega) (by simp; omega), Option.bind_some, impl_WeakJoin_v _ _ _ (by omega), Option.bind_some, impl_WeakOf_v bb (by omega) (by omega), Option.bind_some, w64 (by omega) (by omega)]
      have hj := join_law (b.take m) (b.drop m) (by simp; omega)
      rw [List.take_append_drop, List.length_drop, show ((b.length - m : Nat) : Int) = (b.length : Int) - (m : Int) from by omega] at hj
      rw [hj]; simp
    by_cases hp : (b.length : Int) > 0
    · rw [if_pos hp, e3, Option.bind_some, w64 (by omega) (by omega), if_neg (by omega), tmod_nn r0]
      exact fin _ (Int.emod_nonneg _ (by omega)) (by have := Int.emod_lt_of_pos r (by omega : 0 < (b.length : Int) + 1); omega)
    · rw [if_neg hp]
      exact fin 0 (by omega) (by omega)

end Go.Proofs.Ytbhpnckebecffaa.Pure
