/- For all draws: different blocks have different sums; no condition. -/
import Derived.Test.YtbhpnckebecffaaPFnSumsApartx4
import Derived.Test.YtbhpnckebecffaaLib
set_option linter.unusedVariables false
set_option linter.unusedSimpArgs false
namespace Go.Proofs.Ytbhpnckebecffaa.Pure
open Go.RowKit Go.Proofs.Ytbhpnckebecffaa.PFnSumsApart Go.Proofs.YtbhpnckebecffaaW.PrintWords Go.Proofs.YtbhpnckebecffaaW.PrintLast Go.Proofs.YtbhpnckebecffaaW.PrintMore Go.Proofs.Ytbhpnckebecffaa.Lib

theorem impl_within_v (a b c : Int) : impl_within.f a b c = some (decide (b ≤ a ∧ a ≤ c)) := by
  unfold impl_within.f
  by_cases h : b ≤ a
  · rw [if_pos h]; simp [h]
  · rw [if_neg h]; simp [h]

theorem impl_Wrap_v {a m : Int} (h0 : 1 ≤ m) (h1 : m ≤ 1000000000000) : impl_Wrap.f a m = some (a % m) := by
  unfold impl_Wrap.f
  rw [impl_within_v, Option.bind_some, decide_eq_true (by omega), if_pos rfl, if_neg (by omega)]
  have h2 : a.tmod m = a - m * a.tdiv m := by have := Int.mul_tdiv_add_tmod a m; omega
  have h3 : -m < a.tmod m ∧ a.tmod m < m := ⟨by have := Int.lt_tmod_of_pos a (by omega : 0 < m); omega, Int.tmod_lt_of_pos a (by omega)⟩
  rw [w64 (by omega) (by omega), tmod_nn (by omega), Int.add_emod_right, h2, Int.sub_mul_emod_self_left]

theorem impl_weak_v (x y : Int) : impl_weak.f x y = some (x % 251 + 251 * (y % 251)) := by
  unfold impl_weak.f
  rw [impl_Wrap_v (by omega) (by omega), impl_Wrap_v (by omega) (by omega)]
  simp only [Option.bind_some]
  rw [w64 (x := 251 * (y % 251)) (by omega) (by omega), w64 (by omega) (by omega)]

theorem impl_WeakOf_l (l : List Int) (hb : Byt l) (hl : l.length ≤ 140737488351232) (d : Nat) : ∀ (k : Nat) (i : Nat), i ≤ l.length → l.length - i = d → d < k →
    impl_WeakOf.l0 k (sx (l.take i) % 251) (sy (l.take i) % 251) l (l.length : Int) (i : Int) = some (weakOf l) := by
  induction d with
  | zero =>
    intro k i hi hd hk
    obtain ⟨k, rfl⟩ : ∃ m, k = m + 1 := ⟨k - 1, by omega⟩
    simp only [impl_WeakOf.l0]
    rw [if_neg (by omega), impl_weak_v, List.take_of_length_le (by omega)]
    simp only [Option.bind_some, weakOf, Int.emod_emod]
  | succ d ih =>
    intro k i hi hd hk
    obtain ⟨k, rfl⟩ : ∃ m, k = m + 1 := ⟨k - 1, by omega⟩
    simp only [impl_WeakOf.l0]
    have hc := hb l[i] (List.getElem_mem (by omega))
    rw [if_pos (by omega), if_pos (by omega), if_pos (by omega), wnat (by omega), rd_at (by omega : i < l.length), w64 (x := l[i]) (by omega) (by omega), w64 (by omega) (by omega), tmod_nn (by omega), w64 (by omega) (by omega), tmod_nn (by omega)]
    have e : l.take (i + 1) = l.take i ++ [l[i]] := List.take_succ_eq_append_getElem (by omega)
    have := ih k (i + 1) (by omega) (by omega) (by omega)
    rw [e, sx_snoc, sy_snoc] at this
    rw [show (sx (l.take i) % 251 + l[i]) % 251 = (sx (l.take i) + l[i]) % 251 from by omega, show (sy (l.take i) % 251 + (sx (l.take i) + l[i]) % 251) % 251 = (sy (l.take i) + sx (l.take i) + l[i]) % 251 from by omega]
    exact this
theorem impl_WeakOf_v {k : Nat} {l : List Int} (hb : Byt l) (hl : l.length ≤ 140737488351232) (hk : l.length < k) : impl_WeakOf.f k l = some (weakOf l) := by
  unfold impl_WeakOf.f
  exact impl_WeakOf_l l hb hl l.length k 0 (by omega) (by omega) hk

theorem impl_SumOf_l (l : List Int) (hb : Byt l) (hl : l.length ≤ 6) (d : Nat) : ∀ (k : Nat) (i : Nat), i ≤ l.length → l.length - i = d → d + 10 < k → impl_SumOf.l0 k l (sumS (l.take i)) l (l.length : Int) (i : Int) = some (weakOf l, sumS l) := by
  induction d with
  | zero =>
    intro k i hi hd hk
    obtain ⟨k, rfl⟩ : ∃ m, k = m + 1 := ⟨k - 1, by omega⟩
    simp only [impl_SumOf.l0]
    rw [if_neg (by omega), impl_WeakOf_v hb (by omega) (by omega), List.take_of_length_le (by omega)]; rfl
  | succ d ih =>
    intro k i hi hd hk
    obtain ⟨k, rfl⟩ : ∃ m, k = m + 1 := ⟨k - 1, by omega⟩
    simp only [impl_SumOf.l0]
    have hc := hb l[i] (List.getElem_mem (by omega))
    have h1 := sumS_small (l := l.take i) (byt_take hb i) (by simp; omega)
    rw [if_pos (by omega), if_pos (by omega), if_pos (by omega), wnat (by omega), rd_at (by omega : i < l.length), w64 (x := sumS (l.take i) * 256) (by omega) (by omega), w64 (x := l[i]) (by omega) (by omega), or_256 (by omega) (by omega) hc.1 hc.2]
    have e : l.take (i + 1) = l.take i ++ [l[i]] := List.take_succ_eq_append_getElem (by omega)
    have := ih k (i + 1) (by omega) (by omega) (by omega)
    rw [e, sumS_snoc] at this
    exact this
theorem impl_SumOf_v {k : Nat} {l : List Int} (hb : Byt l) (hk : 20 < k) : impl_SumOf.f k l = some (sumOf l) := by
  unfold impl_SumOf.f sumOf
  by_cases h : l.length ≤ 6
  · rw [if_neg (by omega), if_pos h]
    exact impl_SumOf_l l hb h l.length k 0 (by omega) (by omega) (by omega)
  · rw [if_pos (by omega), if_neg h]

theorem laws_big_v (l : List Int) : laws_big.f l = some (decide ((l.length : Int) > 1048576)) := rfl

theorem laws_same_l (a b : List Int) (hab : a.length = b.length) (hl : a.length ≤ 140737488355328) (d : Nat) : ∀ (k : Nat) (i : Nat), i ≤ a.length → a.length - i = d → d < k →
    laws_same.l0 k a b (i : Int) = some (decide (a.drop i = b.drop i)) := by
  induction d with
  | zero =>
    intro k i hi hd hk
    obtain ⟨k, rfl⟩ : ∃ m, k = m + 1 := ⟨k - 1, by omega⟩
    simp only [laws_same.l0]
    rw [if_neg (by omega), List.drop_eq_nil_of_le (by omega), List.drop_eq_nil_of_le (by omega)]
    rfl
  | succ d ih =>
    intro k i hi hd hk
    obtain ⟨k, rfl⟩ : ∃ m, k = m + 1 := ⟨k - 1, by omega⟩
    simp only [laws_same.l0]
    rw [if_pos (by omega), if_pos (by omega), if_pos (by omega), wnat (by omega), rd_at (by omega : i < a.length), rd_at (by omega : i < b.length), ih k (i + 1) (by omega) (by omega) (by omega)]
    have e := drop_eq_iff (a := a) (b := b) (i := i) (by omega) (by omega)
    by_cases h : a[i]'(by omega) = b[i]'(by omega)
    · rw [if_pos h]; simp only [e, h, true_and]
    · rw [if_neg h]; simp only [e, h, false_and, decide_false]
theorem laws_same_v {k : Nat} {a b : List Int} (hl : a.length ≤ 140737488355328) (hk : a.length < k) : laws_same.f k a b = some (decide (a = b)) := by
  unfold laws_same.f
  by_cases h : a.length = b.length
  · rw [if_pos (by omega)]
    exact laws_same_l a b h hl a.length k 0 (by omega) (by omega) hk
  · rw [if_neg (by omega)]
    have : a ≠ b := fun e => h (by rw [e])
    simp [this]

theorem spec_l1New_l (b : List Int) (hb : b.length ≤ 1048576) (d : Nat) : ∀ (k i : Nat) (h : Int), i ≤ b.length → b.length - i = d → d < k → ∃ h', spec_l1New.l0 k b h (i : Int) = some (b, 0, h') := by
  induction d with
  | zero =>
    intro k i h hi hd hk
    obtain ⟨k, rfl⟩ : ∃ m, k = m + 1 := ⟨k - 1, by omega⟩
    simp only [spec_l1New.l0]
    rw [if_neg (by omega)]
    exact ⟨_, rfl⟩
  | succ d ih =>
    intro k i h hi hd hk
    obtain ⟨k, rfl⟩ : ∃ m, k = m + 1 := ⟨k - 1, by omega⟩
    simp only [spec_l1New.l0]
    rw [if_pos (by omega)]
    by_cases h4 : (i : Int) < 4000
    · rw [if_pos h4, if_pos (by omega), wnat (by omega)]
      exact ih k (i + 1) _ (by omega) (by omega) (by omega)
    · rw [if_neg h4]; exact ⟨_, rfl⟩
theorem spec_l1New_x {k : Nat} {b : List Int} (hb : b.length ≤ 1048576) (hk : b.length < k) : ∃ h', spec_l1New.f k b = some (b, 0, h') := by
  unfold spec_l1New.f
  exact spec_l1New_l b hb b.length k 0 _ (by omega) (by omega) hk
theorem cur_start {b : List Int} (hb : b.length ≤ 1048576) : Cur b 0 := ⟨hb, by omega, by omega⟩

theorem spec_l1Byte_x {b : List Int} {i : Int} (hc : Cur b i) (h : Int) : ∃ r i' h', spec_l1Byte.f b i h = some (r, i', h') ∧ 0 ≤ r ∧ r ≤ 255 ∧ Cur b i' := by
  obtain ⟨h0, h1, h2⟩ := hc
  unfold spec_l1Byte.f
  by_cases hi : i < (b.length : Int)
  · rw [if_pos hi, if_pos h1, w64 (x := i + 1) (by omega) (by omega)]
    exact ⟨_, _, _, rfl, (and_le _).1, (and_le _).2, h0, by omega, by omega⟩
  · rw [if_neg hi]
    exact ⟨_, _, _, rfl, (and_le _).1, (and_le _).2, h0, h1, h2⟩

theorem spec_l1Below_x {b : List Int} {i : Int} (hc : Cur b i) (h : Int) (n : Int) : ∃ r i' h', spec_l1Below.f b i h n = some (r, i', h') ∧ 0 ≤ r ∧ (n ≤ 0 → r = 0) ∧ (0 < n → r < n) ∧ Cur b i' := by
  unfold spec_l1Below.f
  by_cases hn : n ≤ 0
  · rw [if_pos hn]
    exact ⟨_, _, _, rfl, by omega, fun _ => rfl, fun h => by omega, hc⟩
  · rw [if_neg hn]
    by_cases h256 : n ≤ 256
    · rw [if_pos h256]
      obtain ⟨r, i', h', e, r0, r1, hc'⟩ := spec_l1Byte_x hc h
      rw [e, Option.bind_some, if_neg (by omega)]
      refine ⟨_, _, _, rfl, ?_, fun h => by omega, fun _ => ?_, hc'⟩ <;> dsimp only <;> rw [tmod_nn r0]
      · exact Int.emod_nonneg _ (by omega)
      · exact Int.emod_lt_of_pos _ (by omega)
    · rw [if_neg h256]
      obtain ⟨r, i', h', e, r0, r1, hc'⟩ := spec_l1Byte_x hc h
      obtain ⟨s, i'', h'', e', s0, s1, hc''⟩ := spec_l1Byte_x hc' h'
      obtain ⟨t, i3, h3, e3, t0, t1, hc3⟩ := spec_l1Byte_x hc'' h''
      rw [e, Option.bind_some, e', Option.bind_some, e3, Option.bind_some, if_neg (by omega)]
      refine ⟨_, _, _, rfl, ?_, fun h => by omega, fun _ => ?_, hc3⟩ <;> dsimp only <;> rw [w64 (x := r * 65536) (by omega) (by omega), w64 (x := s * 256) (by omega) (by omega), w64 (x := r * 65536 + s * 256) (by omega) (by omega), w64 (x := r * 65536 + s * 256 + t) (by omega) (by omega), tmod_nn (by omega)]
      · exact Int.emod_nonneg _ (by omega)
      · exact Int.emod_lt_of_pos _ (by omega)

theorem spec_l1Int_x {b : List Int} {i : Int} (hc : Cur b i) (h : Int) {l : List Int} (hl : 0 < l.length) : ∃ r i' h', spec_l1Int.f b i h l = some (r, i', h') ∧ r ∈ l ∧ Cur b i' := by
  unfold spec_l1Int.f
  obtain ⟨r, i', h', e, r0, r1, r2, hc'⟩ := spec_l1Below_x hc h (l.length : Int)
  have := r2 (by omega)
  rw [e, Option.bind_some, if_pos r0, if_pos this]
  refine ⟨_, _, _, rfl, ?_, hc'⟩
  obtain ⟨m, rfl⟩ := Int.eq_ofNat_of_zero_le r0
  dsimp only
  rw [rd_at (by omega : m < l.length)]
  exact List.getElem_mem _

theorem spec_l1Once_x {b : List Int} {i : Int} (hc : Cur b i) (h : Int) (n : Int) : ∃ (r : Bool) (i' h' : Int), spec_l1Once.f b i h n = some (r, i', h') ∧ Cur b i' := by
  unfold spec_l1Once.f
  obtain ⟨r, i', h', e, r0, r1, r2, hc'⟩ := spec_l1Below_x hc h n
  rw [e, Option.bind_some]
  exact ⟨_, _, _, rfl, hc'⟩

theorem spec_l3Bytes_l {b : List Int} (d : Nat) : ∀ (k : Nat) (acc : List Int) (i h : Int), Cur b i → Byt acc → acc.length + d ≤ 1000000 → d < k →
    ∃ r i' h', spec_l3Bytes.l0 k acc (d : Int) b i h = some (r, i', h') ∧ Byt r ∧ r.length = acc.length + d ∧ Cur b i' := by
  induction d with
  | zero =>
    intro k acc i h hc hb ha hk
    obtain ⟨k, rfl⟩ : ∃ m, k = m + 1 := ⟨k - 1, by omega⟩
    simp only [spec_l3Bytes.l0]
    rw [if_neg (by omega)]
    exact ⟨_, _, _, rfl, hb, rfl, hc⟩
  | succ d ih =>
    intro k acc i h hc hb ha hk
    obtain ⟨k, rfl⟩ : ∃ m, k = m + 1 := ⟨k - 1, by omega⟩
    simp only [spec_l3Bytes.l0]
    obtain ⟨r, i', h', e, hr, hc'⟩ := spec_l1Int_x hc h (l := [97, 98, 99, 0, 255]) (by decide)
    have hr2 : 0 ≤ r ∧ r ≤ 255 := by
      simp only [List.mem_cons, List.not_mem_nil, or_false] at hr
      omega
    rw [if_pos (by omega), e, Option.bind_some, if_pos (by omega), mod256 hr2.1 hr2.2, w64 (by omega) (by omega), show ((d + 1 : Nat) : Int) - 1 = (d : Int) from by omega]
    obtain ⟨r2, i2, h2, e2, b2, l2, c2⟩ := ih k (acc ++ [r]) i' h' hc' (byt_snoc.2 ⟨hb, hr2⟩) (by simp; omega) (by omega)
    exact ⟨r2, i2, h2, e2, b2, by rw [l2]; simp; omega, c2⟩
theorem spec_l3Bytes_x {k : Nat} {b : List Int} {i : Int} (hc : Cur b i) (h : Int) {n : Int} (h0 : 0 ≤ n) (h1 : n ≤ 1000) (hk : 2000 < k) : ∃ r i' h', spec_l3Bytes.f k b i h n = some (r, i', h') ∧ Byt r ∧ (r.length : Int) ≤ n ∧ Cur b i' := by
  unfold spec_l3Bytes.f
  rw [w64 (by omega) (by omega)]
  obtain ⟨r, i', h', e, r0, r1, r2, hc'⟩ := spec_l1Below_x hc h (n + 1)
  have := r2 (by omega)
  rw [e, Option.bind_some]
  obtain ⟨m, rfl⟩ := Int.eq_ofNat_of_zero_le r0
  obtain ⟨r2, i2, h2, e2, b2, l2, c2⟩ := spec_l3Bytes_l m k [] i' h' hc' byt_nil (by simp; omega) (by omega)
  exact ⟨r2, i2, h2, e2, b2, by rw [l2]; simp; omega, c2⟩

theorem spec_l1Bytes_l {b : List Int} (n : Nat) (hn : n ≤ 1000000) (d : Nat) : ∀ (k : Nat) (acc : List Int) (j : Nat) (i h : Int), Cur b i → Byt acc → acc.length = j → j + d = n → d < k →
    ∃ r i' h', spec_l1Bytes.l0 k (n : Int) acc (j : Int) b i h = some (r, i', h') ∧ Byt r ∧ r.length = n ∧ Cur b i' := by
  induction d with
  | zero =>
    intro k acc j i h hc hb ha hd hk
    obtain ⟨k, rfl⟩ : ∃ m, k = m + 1 := ⟨k - 1, by omega⟩
    simp only [spec_l1Bytes.l0]
    rw [if_neg (by omega)]
    exact ⟨_, _, _, rfl, hb, by omega, hc⟩
  | succ d ih =>
    intro k acc j i h hc hb ha hd hk
    obtain ⟨k, rfl⟩ : ∃ m, k = m + 1 := ⟨k - 1, by omega⟩
    simp only [spec_l1Bytes.l0]
    obtain ⟨r, i', h', e, r0, r1, hc'⟩ := spec_l1Byte_x hc h
    rw [if_pos (by omega), e, Option.bind_some, if_pos (by omega), mod256 r0 r1, wnat (by omega)]
    exact ih k (acc ++ [r]) (j + 1) i' h' hc' (byt_snoc.2 ⟨hb, r0, r1⟩) (by simp; omega) (by omega) (by omega)
theorem spec_l1Bytes_x {k : Nat} {b : List Int} {i : Int} (hc : Cur b i) (h : Int) {n : Int} (h0 : 0 ≤ n) (h1 : n ≤ 1000) (hk : 2000 < k) : ∃ r i' h', spec_l1Bytes.f k b i h n = some (r, i', h') ∧ Byt r ∧ (r.length : Int) = n ∧ Cur b i' := by
  unfold spec_l1Bytes.f
  obtain ⟨m, rfl⟩ := Int.eq_ofNat_of_zero_le h0
  obtain ⟨r2, i2, h2, e2, b2, l2, c2⟩ := spec_l1Bytes_l m (by omega) m k [] 0 i h hc byt_nil rfl (by omega) (by omega)
  exact ⟨r2, i2, h2, e2, b2, by omega, c2⟩

theorem byt_set {l : List Int} (h : Byt l) (i : Nat) {v : Int} (h0 : 0 ≤ v) (h1 : v ≤ 255) : Byt (l.set i v) := by
  intro x hx
  rcases List.mem_or_eq_of_mem_set hx with hx | rfl
  · exact h x hx
  · exact ⟨h0, h1⟩
theorem u8_range (op : BinOp) (x y : Int) : 0 ≤ Go.bits op .u8 x y ∧ Go.bits op .u8 x y ≤ 255 := by
  unfold Go.bits
  simp only [IntKind.wrap_u8]
  omega
theorem spec_l1Bent_x {b : List Int} {i : Int} (hc : Cur b i) (h : Int) {l : List Int} (hb : Byt l) (hl : l.length ≤ 1000000) : ∃ r i' h', spec_l1Bent.f b i h l = some (r, i', h') ∧ Byt r ∧ r.length ≤ l.length + 1 ∧ Cur b i' := by
  unfold spec_l1Bent.f
  simp only [Option.bind_some, List.length_nil, List.nil_append]
  rw [if_pos (by omega)]
  obtain ⟨r, i1, h1, e1, r0, _, r2, c1⟩ := spec_l1Below_x hc h 6
  rw [e1]
  simp only [Option.bind_some]
  by_cases q0 : r = 0
  · rw [if_pos q0]
    by_cases hp : (l.length : Int) > 0
    · rw [if_pos hp]
      obtain ⟨s, i2, h2, e2, s0, _, s2, c2⟩ := spec_l1Below_x c1 h1 (l.length : Int)
      obtain ⟨t, i3, h3, e3, t0, _, t2, c3⟩ := spec_l1Below_x c2 h2 256
      have := s2 (by omega)
      rw [e2]
      simp only [Option.bind_some]
      rw [e3]
      simp only [Option.bind_some]
      rw [if_pos s0, if_pos (by omega)]
      exact ⟨_, _, _, rfl, byt_set hb _ (by omega) (by omega), by simp, c3⟩
    · rw [if_neg hp]; exact ⟨_, _, _, rfl, hb, by omega, c1⟩
  · rw [if_neg q0]
    by_cases q1 : r = 1
    · rw [if_pos q1, w64 (by omega) (by omega)]
      obtain ⟨s, i2, h2, e2, s0, _, s2, c2⟩ := spec_l1Below_x c1 h1 ((l.length : Int) + 1)
      have := s2 (by omega)
      rw [e2]
      simp only [Option.bind_some]
      rw [if_pos s0, if_pos (by omega)]
      exact ⟨_, _, _, rfl, byt_take hb _, by simp; omega, c2⟩
    · rw [if_neg q1]
      by_cases q2 : r = 2
      · rw [if_pos q2]
        obtain ⟨s, i2, h2, e2, hs, c2⟩ := spec_l1Int_x c1 h1 (l := [0, 1, 128, 255]) (by decide)
        rw [e2]
        simp only [Option.bind_some]
        rw [if_pos (by omega)]
        exact ⟨_, _, _, rfl, byt_snoc.2 ⟨hb, by omega, by omega⟩, by simp, c2⟩
      · rw [if_neg q2]
        by_cases q3 : r = 3
        · rw [if_pos q3]
          by_cases hp : (l.length : Int) > 0
          · rw [if_pos hp]
            obtain ⟨s, i2, h2, e2, s0, _, s2, c2⟩ := spec_l1Below_x c1 h1 (l.length : Int)
            obtain ⟨t, i3, h3, e3, t0, _, t2, c3⟩ := spec_l1Below_x c2 h2 8
            have := s2 (by omega)
            rw [e2]
            simp only [Option.bind_some]
            rw [if_pos s0, if_pos (by omega), e3]
            simp only [Option.bind_some]
            rw [if_pos t0]
            exact ⟨_, _, _, rfl, byt_set hb _ (u8_range _ _ _).1 (u8_range _ _ _).2, by simp, c3⟩
          · rw [if_neg hp]; exact ⟨_, _, _, rfl, hb, by omega, c1⟩
        · rw [if_neg q3]; exact ⟨_, _, _, rfl, hb, by omega, c1⟩

theorem spec_DrawWeakOf_x {k : Nat} {b : List Int} (hb : b.length ≤ 1048576) (hk : 1049000 < k) : ∃ r, spec_DrawWeakOf.f k b = some r ∧ Byt r ∧ r.length ≤ 12 := by
  unfold spec_DrawWeakOf.f
  obtain ⟨h, e⟩ := spec_l1New_x (k := k) hb (by omega)
  obtain ⟨r, i', h', e', rb, rl, hc⟩ := spec_l3Bytes_x (k := k) (cur_start hb) h (by omega : (0 : Int) ≤ 12) (by omega) (by omega)
  rw [e, Option.bind_some, e', Option.bind_some]
  exact ⟨r, rfl, rb, by omega⟩

theorem spec_DrawSumOf_x {k : Nat} {b : List Int} (hb : b.length ≤ 1048576) (hk : 1049000 < k) : ∃ r, spec_DrawSumOf.f k b = some r ∧ Byt r ∧ r.length ≤ 8 := by
  unfold spec_DrawSumOf.f
  obtain ⟨h, e⟩ := spec_l1New_x (k := k) hb (by omega)
  obtain ⟨r, i', h', e', rb, rl, hc⟩ := spec_l3Bytes_x (k := k) (cur_start hb) h (by omega : (0 : Int) ≤ 8) (by omega) (by omega)
  rw [e, Option.bind_some, e', Option.bind_some]
  exact ⟨r, rfl, rb, by omega⟩

theorem bytes_Equal_v {a b : List Int} (ha : Byt a) (hb : Byt b) : bytes_Equal.f a b = some (decide (a = b)) := by
  unfold bytes_Equal.f
  congr 1
  rw [Bool.eq_iff_iff, beq_iff_eq, decide_eq_true_iff]
  exact ⟨fun h => bytesOf_inj ha hb h, fun h => by rw [h]⟩

theorem impl_SameBytes_v {a b : List Int} (ha : Byt a) (hb : Byt b) : impl_SameBytes.f a b = some (decide (a = b)) := by
  unfold impl_SameBytes.f
  rw [bytes_Equal_v ha hb]; rfl

theorem spec_DrawSameBytes_x {k : Nat} {b : List Int} (hb : b.length ≤ 1048576) (hk : 1049000 < k) : ∃ x y, spec_DrawSameBytes.f k b = some (x, y) ∧ Byt x ∧ Byt y ∧ x.length ≤ 10 ∧ y.length ≤ 10 := by
  unfold spec_DrawSameBytes.f
  obtain ⟨h, e⟩ := spec_l1New_x (k := k) hb (by omega)
  obtain ⟨r, i1, h1, e1, r0, _, r2, c1⟩ := spec_l1Below_x (cur_start hb) h 5
  have := r2 (by omega)
  obtain ⟨x, i2, h2, e2, xb, xl, c2⟩ := spec_l1Bytes_x (k := k) c1 h1 r0 (by omega) (by omega)
  obtain ⟨o, i3, h3, e3, c3⟩ := spec_l1Once_x c2 h2 2
  simp only [e, e1, e2, e3, Option.bind_some]
  cases o with
  | true =>
    simp only [if_true, List.length_nil, List.nil_append]
    rw [if_pos (by omega)]
    exact ⟨_, _, rfl, xb, xb, by omega, by omega⟩
  | false =>
    obtain ⟨y, i4, h4, e4, yb, yl, c4⟩ := spec_l1Bent_x c3 h3 xb (by omega)
    simp only [Bool.false_eq_true, if_false, e4, Option.bind_some]
    exact ⟨_, _, rfl, xb, yb, by omega, by omega⟩

theorem FnSumsApart : laws_FnSumsApart.Pure := by
  intro l hm hr hw
  refine exists_ge 1050000 _ (fun k hk => ?_)
  unfold laws_FnSumsApart.f
  rw [laws_big_v, Option.bind_some]
  by_cases hbig : (l.length : Int) > 1048576
  · rw [if_pos (decide_eq_true hbig)]
  · rw [if_neg (by simpa using hbig)]
    obtain ⟨a, e1, ab, al⟩ := spec_DrawSumOf_x (k := k) (b := l) (by omega) (by omega)
    obtain ⟨b, e2, bb, bl⟩ := spec_DrawWeakOf_x (k := k) (b := l) (by omega) (by omega)
    obtain ⟨c, d, e3, cb, db, cl, dl⟩ := spec_DrawSameBytes_x (k := k) (b := l) (by omega) (by omega)
    simp only [e1, e2, e3, Option.bind_some]
    rw [impl_SameBytes_v cb db, Option.bind_some, laws_same_v (by omega) (by omega), Option.bind_some, bne_self_eq_false, if_neg (by decide)]
    obtain ⟨k, rfl⟩ : ∃ m, k = m + 2 := ⟨k - 2, by omega⟩
    have fin : laws_FnSumsApart.j0 (k + 2) a b false = some true := by
      simp only [laws_FnSumsApart.j0, Bool.false_eq_true, if_false]
      by_cases ha : (a.length : Int) > 6
      · rw [if_pos ha]; simp only [laws_FnSumsApart.j1, if_true]
      · rw [if_neg ha]
        simp only [laws_FnSumsApart.j1]
        by_cases hb : (b.length : Int) > 6
        · rw [if_pos (decide_eq_true hb)]
        · rw [if_neg (by simpa using hb), impl_SumOf_v ab (by omega), Option.bind_some, impl_SumOf_v bb (by omega), Option.bind_some, laws_same_v (by omega) (by omega)]
          simp only [Option.bind_some, sumOf, if_pos (by omega : a.length ≤ 6), if_pos (by omega : b.length ≤ 6)]
          have hS : (sumS a == sumS b) = decide (a = b) := by
            rw [Bool.eq_iff_iff, beq_iff_eq, decide_eq_true_iff]
            exact ⟨fun h => sumS_inj ab bb h, fun h => by rw [h]⟩
          have hP : (weakOf a == weakOf b && (sumS a == sumS b)) = decide (a = b) := by
            rw [hS]
            by_cases h : a = b
            · rw [h]; simp
            · rw [decide_eq_false h, Bool.and_false]
          rw [hP, hS]; simp
    by_cases ha : (a.length : Int) > 6
    · rw [if_pos ha, impl_SumOf_v ab (by omega), Option.bind_some]
      unfold sumOf
      rw [if_neg (by omega)]
      exact fin
    · rw [if_neg ha]; exact fin

end Go.Proofs.Ytbhpnckebecffaa.Pure
