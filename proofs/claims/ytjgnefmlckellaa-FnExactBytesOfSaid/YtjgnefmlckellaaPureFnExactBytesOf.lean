/- BytesOf returns what the reference's BytesOf returns, in memory of its own, and leaves its arguments as they were, for all arguments; no condition. -/
import Derived.Test.YtjgnefmlckellaaPFnExactBytesOfx2
import Derived.Test.YtjgnefmlckellaaLib
set_option linter.unusedVariables false
set_option linter.unusedSimpArgs false
namespace Go.Proofs.Ytjgnefmlckellaa.Pure
open Go.RowKit Go.Proofs.Ytjgnefmlckellaa.PFnExactBytesOf Go.Proofs.YtjgnefmlckellaaW.PrintWords Go.Proofs.YtjgnefmlckellaaW.PrintLast Go.Proofs.YtjgnefmlckellaaW.PrintMore Go.Proofs.Ytjgnefmlckellaa.Lib

theorem spec_l1In_v (a b c : Int) : spec_l1In.f a b c = some (decide (b ≤ a ∧ a ≤ c)) := by
  unfold spec_l1In.f
  by_cases h : b ≤ a
  · rw [if_pos h]; simp [h]
  · rw [if_neg h]; simp [h]

theorem laws_eqByteS_l (a b : List Int) (hab : a.length = b.length) (hl : a.length ≤ 140737488355328) (d : Nat) : ∀ (k : Nat) (i : Nat), i ≤ a.length → a.length - i = d → d < k →
    laws_eqByteS.l0 k a b (i : Int) = some (decide (a.drop i = b.drop i)) := by
  induction d with
  | zero =>
    intro k i hi hd hk
    obtain ⟨k, rfl⟩ : ∃ m, k = m + 1 := ⟨k - 1, by omega⟩
    simp only [laws_eqByteS.l0]
    rw [if_neg (by omega), List.drop_eq_nil_of_le (by omega), List.drop_eq_nil_of_le (by omega)]
    rfl
  | succ d ih =>
    intro k i hi hd hk
    obtain ⟨k, rfl⟩ : ∃ m, k = m + 1 := ⟨k - 1, by omega⟩
    simp only [laws_eqByteS.l0]
    rw [if_pos (by omega), if_pos (by omega), if_pos (by omega), wnat (by omega), rd_at (by omega : i < a.length), rd_at (by omega : i < b.length), ih k (i + 1) (by omega) (by omega) (by omega)]
    have e := drop_eq_iff (a := a) (b := b) (i := i) (by omega) (by omega)
    by_cases h : a[i]'(by omega) = b[i]'(by omega)
    · rw [if_pos h]; simp only [e, h, true_and]
    · rw [if_neg h]; simp only [e, h, false_and, decide_false]
theorem laws_eqByteS_v {k : Nat} {a b : List Int} (hl : a.length ≤ 140737488355328) (hk : a.length < k) : laws_eqByteS.f k a b = some (decide (a = b)) := by
  unfold laws_eqByteS.f
  by_cases h : a.length = b.length
  · rw [if_pos (by omega)]
    exact laws_eqByteS_l a b h hl a.length k 0 (by omega) (by omega) hk
  · rw [if_neg (by omega)]
    have : a ≠ b := fun e => h (by rw [e])
    simp [this]

theorem laws_markByteS_l (c : Int) (n : Nat) (hc : 0 ≤ c) (hl : c + n ≤ 4611686018427387904) (d : Nat) : ∀ (k : Nat) (x : List Int) (i : Nat), x.length = n → i ≤ n → n - i = d → d < k →
    (∀ j, j < i → x[j]? = (markB c n)[j]?) → laws_markByteS.l0 k x (c + (i : Int)) (i : Int) = some (c + (n : Int), markB c n) := by
  induction d with
  | zero =>
    intro k x i hx hi hd hk hj
    obtain ⟨k, rfl⟩ : ∃ m, k = m + 1 := ⟨k - 1, by omega⟩
    simp only [laws_markByteS.l0]
    rw [if_neg (by omega), ext_all hx (markB_length c n) (fun j h => hj j (by omega)), show i = n from by omega]
  | succ d ih =>
    intro k x i hx hi hd hk hj
    obtain ⟨k, rfl⟩ : ∃ m, k = m + 1 := ⟨k - 1, by omega⟩
    simp only [laws_markByteS.l0]
    rw [if_pos (by omega), if_pos (by omega), wnat (by omega), w64 (by omega) (by omega), show c + (i : Int) + 1 = c + ((i + 1 : Nat) : Int) from by omega]
    exact ih k _ (i + 1) (by simp [hx]) (by omega) (by omega) (by omega) (set_step (by omega) hj (markB_get c n i (by omega)))
theorem laws_markByteS_v {k : Nat} {x : List Int} {c : Int} (hc : 0 ≤ c) (hl : c + x.length ≤ 4611686018427387904) (hk : x.length < k) : laws_markByteS.f k x c = some (c + (x.length : Int), markB c x.length) := by
  unfold laws_markByteS.f
  have h := laws_markByteS_l c x.length hc hl x.length k x 0 rfl (by omega) (by omega) hk (fun j h => by omega)
  rw [show c + ((0 : Nat) : Int) = c from by omega] at h
  exact h

theorem laws_heldByteS_l (c : Int) (n : Nat) (hc : 0 ≤ c) (hl : c + n ≤ 4611686018427387904) (d : Nat) : ∀ (k : Nat) (i : Nat), i ≤ n → n - i = d → d < k →
    laws_heldByteS.l0 k (markB c n) (c + (i : Int)) (i : Int) = some (c + (n : Int)) := by
  induction d with
  | zero =>
    intro k i hi hd hk
    obtain ⟨k, rfl⟩ : ∃ m, k = m + 1 := ⟨k - 1, by omega⟩
    simp only [laws_heldByteS.l0, markB_length]
    rw [if_neg (by omega), show i = n from by omega]
  | succ d ih =>
    intro k i hi hd hk
    obtain ⟨k, rfl⟩ : ∃ m, k = m + 1 := ⟨k - 1, by omega⟩
    simp only [laws_heldByteS.l0, markB_length]
    rw [if_pos (by omega), if_pos (by omega), markB_rd c n i (by omega), if_pos rfl, wnat (by omega), w64 (by omega) (by omega), show c + (i : Int) + 1 = c + ((i + 1 : Nat) : Int) from by omega]
    exact ih k (i + 1) (by omega) (by omega) (by omega)
theorem laws_heldByteS_v {k : Nat} {n : Nat} {c : Int} (hc : 0 ≤ c) (hl : c + n ≤ 4611686018427387904) (hk : n < k) : laws_heldByteS.f k (markB c n) c = some (c + (n : Int)) := by
  unfold laws_heldByteS.f
  have h := laws_heldByteS_l c n hc hl n k 0 (by omega) (by omega) hk
  rw [show c + ((0 : Nat) : Int) = c from by omega] at h
  exact h

theorem spec_BytesOf_ok (n : Nat) : ∀ (k : Nat) (s : Int) (out : List Int), n ≤ 6 → 256 ^ n ≤ s → s < 2 * 256 ^ n → out.length ≤ 100 - n → n < k → spec_BytesOf.l0 k s out = some (dg n s ++ out, true) := by
  induction n with
  | zero =>
    intro k s out hn h0 h1 ho hk
    obtain ⟨k, rfl⟩ : ∃ m, k = m + 1 := ⟨k - 1, by omega⟩
    simp only [spec_BytesOf.l0]
    rw [if_neg (by omega)]; rfl
  | succ n ih =>
    intro k s out hn h0 h1 ho hk
    obtain ⟨k, rfl⟩ : ∃ m, k = m + 1 := ⟨k - 1, by omega⟩
    have hp := pow256_pos n
    have hq : (256 : Int) ^ n ≤ 256 ^ 5 := by
      rcases (by omega : n = 0 ∨ n = 1 ∨ n = 2 ∨ n = 3 ∨ n = 4 ∨ n = 5) with rfl | rfl | rfl | rfl | rfl | rfl <;> decide
    rw [Int.pow_succ] at h0 h1
    simp only [spec_BytesOf.l0]
    rw [if_pos (by omega), if_neg (by omega), Option.bind_some, if_pos (by simp; omega), and255 (by omega) (by omega), Int.emod_emod, ih k _ _ (by omega) (by omega) (by omega) (by simp; omega) (by omega)]
    simp [dg]
theorem spec_BytesOf_no (n : Nat) : ∀ (k : Nat) (s : Int) (out : List Int), n ≤ 6 → 2 * 256 ^ n ≤ s → s < 256 ^ (n + 1) → out.length ≤ 100 - n → n < k → spec_BytesOf.l0 k s out = some ([], false) := by
  induction n with
  | zero =>
    intro k s out hn h0 h1 ho hk
    obtain ⟨k, rfl⟩ : ∃ m, k = m + 1 := ⟨k - 1, by omega⟩
    simp only [spec_BytesOf.l0]
    rw [if_pos (by omega), if_pos (by omega)]
  | succ n ih =>
    intro k s out hn h0 h1 ho hk
    obtain ⟨k, rfl⟩ : ∃ m, k = m + 1 := ⟨k - 1, by omega⟩
    have hp := pow256_pos n
    have hq : (256 : Int) ^ n ≤ 256 ^ 5 := by
      rcases (by omega : n = 0 ∨ n = 1 ∨ n = 2 ∨ n = 3 ∨ n = 4 ∨ n = 5) with rfl | rfl | rfl | rfl | rfl | rfl <;> decide
    rw [Int.pow_succ] at h0 h1
    rw [Int.pow_succ] at h1
    simp only [spec_BytesOf.l0]
    rw [if_pos (by omega), if_neg (by omega), Option.bind_some, if_pos (by simp; omega), and255 (by omega) (by omega), Int.emod_emod, ih k _ _ (by omega) (by omega) (by rw [Int.pow_succ]; omega) (by simp; omega) (by omega)]
theorem spec_BytesOf_v {k : Nat} (s : Int) (hk : 20 < k) : spec_BytesOf.f k s = some (bytesOfS s) := by
  unfold spec_BytesOf.f bytesOfS
  simp only [spec_l1In_v, Option.bind_some]
  by_cases h0 : 1 ≤ s ∧ s ≤ 562949953421311
  · have ok := fun (n : Nat) (h : n ≤ 6) h1 h2 => spec_BytesOf_ok n k s [] h h1 h2 (by simp) (by omega)
    have no := fun (n : Nat) (h : n ≤ 6) h1 h2 => spec_BytesOf_no n k s [] h h1 h2 (by simp) (by omega)
    rw [decide_eq_true h0, if_pos rfl, if_neg (by omega)]
    by_cases c1 : s < 2
    · rw [if_pos c1, ok 0 (by omega) (by omega) (by omega)]; rfl
    rw [if_neg c1]
    by_cases c2 : s < 256
    · rw [if_pos c2, no 0 (by omega) (by omega) (by omega)]
    rw [if_neg c2]
    by_cases c3 : s < 512
    · rw [if_pos c3, ok 1 (by omega) (by omega) (by omega), List.append_nil]
    rw [if_neg c3]
    by_cases c4 : s < 65536
    · rw [if_pos c4, no 1 (by omega) (by omega) (by omega)]
    rw [if_neg c4]
    by_cases c5 : s < 131072
    · rw [if_pos c5, ok 2 (by omega) (by omega) (by omega), List.append_nil]
    rw [if_neg c5]
    by_cases c6 : s < 16777216
    · rw [if_pos c6, no 2 (by omega) (by omega) (by omega)]
    rw [if_neg c6]
    by_cases c7 : s < 33554432
    · rw [if_pos c7, ok 3 (by omega) (by omega) (by omega), List.append_nil]
    rw [if_neg c7]
    by_cases c8 : s < 4294967296
    · rw [if_pos c8, no 3 (by omega) (by omega) (by omega)]
    rw [if_neg c8]
    by_cases c9 : s < 8589934592
    · rw [if_pos c9, ok 4 (by omega) (by omega) (by omega), List.append_nil]
    rw [if_neg c9]
    by_cases c10 : s < 1099511627776
    · rw [if_pos c10, no 4 (by omega) (by omega) (by omega)]
    rw [if_neg c10]
    by_cases c11 : s < 2199023255552
    · rw [if_pos c11, ok 5 (by omega) (by omega) (by omega), List.append_nil]
    rw [if_neg c11]
    by_cases c12 : s < 281474976710656
    · rw [if_pos c12, no 5 (by omega) (by omega) (by omega)]
    rw [if_neg c12, if_pos (by omega), ok 6 (by omega) (by omega) (by omega), List.append_nil]
  · rw [decide_eq_false h0, if_neg (by decide)]
    by_cases h1 : s < 1
    · rw [if_pos h1]
    · simp only [if_neg h1]
      repeat rw [if_neg (by omega)]

theorem impl_BytesOf_in (s : Int) (n : Nat) (hn : n ≤ 6) (d : Nat) : ∀ (k : Nat) (out : List Int) (i : Nat), out.length = n → i ≤ n → n - i = d → d < k → (∀ j, j < i → out[j]? = (dg n s)[j]?) →
    impl_BytesOf.l1 k s (n : Int) out (n : Int) (i : Int) = some (dg n s, true) := by
  induction d with
  | zero =>
    intro k out i ho hi hd hk hj
    obtain ⟨k, rfl⟩ : ∃ m, k = m + 1 := ⟨k - 1, by omega⟩
    simp only [impl_BytesOf.l1]
    rw [if_neg (by omega), ext_all ho (dg_length n s) (fun j h => hj j (by omega))]
  | succ d ih =>
    intro k out i ho hi hd hk hj
    obtain ⟨k, rfl⟩ : ∃ m, k = m + 1 := ⟨k - 1, by omega⟩
    simp only [impl_BytesOf.l1]
    rw [if_pos (by omega), w64 (x := (n : Int) - 1) (by omega) (by omega), w64 (x := (n : Int) - 1 - i) (by omega) (by omega), w64 (x := 8 * ((n : Int) - 1 - i)) (by omega) (by omega), if_pos (by omega), if_pos (by omega), if_pos (by omega), wnat (by omega),
      show (n : Int) - 1 - i = ((n - 1 - i : Nat) : Int) from by omega, shr8 s (by omega)]
    exact ih k _ (i + 1) (by simp [ho]) (by omega) (by omega) (by omega) (set_step (by omega) hj (dg_get n s i (by omega)))
/-- The number of bytes is found, or none is. -/
theorem impl_BytesOf_go (s : Int) (t : Nat) (ht : t ≤ 6) (hlast : t = 6 ∨ s / 256 ^ t ≤ 1) (d : Nat) : ∀ (k n : Nat), n ≤ t → t - n = d → d < k → (∀ m, n ≤ m → m < t → s / 256 ^ m > 1) → impl_BytesOf.l0 k s (n : Int) = impl_BytesOf.j1 (k - d - 1) s (t : Int) := by
  induction d with
  | zero =>
    intro k n hn hd hk hm
    obtain ⟨k, rfl⟩ : ∃ m, k = m + 1 := ⟨k - 1, by omega⟩
    obtain rfl : n = t := by omega
    simp only [impl_BytesOf.l0]
    by_cases h6 : n = 6
    · rw [if_neg (by omega)]; rfl
    · rw [if_pos (by omega), w64 (x := 8 * (n : Int)) (by omega) (by omega), if_pos (by omega), shr8 s (by omega), if_neg (by omega)]; rfl
  | succ d ih =>
    intro k n hn hd hk hm
    obtain ⟨k, rfl⟩ : ∃ m, k = m + 1 := ⟨k - 1, by omega⟩
    simp only [impl_BytesOf.l0]
    rw [if_pos (by omega), w64 (x := 8 * (n : Int)) (by omega) (by omega), if_pos (by omega), shr8 s (by omega), if_pos (hm n (by omega) (by omega)), wnat (by omega), ih k (n + 1) (by omega) (by omega) (by omega) (fun m h1 h2 => hm m (by omega) h2)]
    congr 1; omega
theorem impl_BytesOf_yes (s : Int) (t : Nat) (ht : t ≤ 6) (hs : s / 256 ^ t = 1) (hs1 : 1 ≤ s) {k : Nat} (hk : 20 < k) (hm : ∀ m, m < t → s / 256 ^ m > 1) : impl_BytesOf.f k s = some (dg t s, true) := by
  unfold impl_BytesOf.f
  have h := impl_BytesOf_go s t ht (Or.inr (by omega)) t k 0 (by omega) (by omega) (by omega) (fun m _ h => hm m h)
  rw [show ((0 : Nat) : Int) = 0 from rfl] at h
  rw [h]
  obtain ⟨k', hk'⟩ : ∃ m, k - t - 1 = m + 2 := ⟨k - t - 3, by omega⟩
  rw [hk']
  simp only [impl_BytesOf.j1]
  rw [if_neg (by omega), w64 (x := 8 * (t : Int)) (by omega) (by omega), if_pos (by omega), shr8 s (by omega), hs]
  simp only [impl_BytesOf.j2, bne_self_eq_false]
  rw [if_neg (by decide), if_pos (by omega), if_pos (by omega), Option.bind_some, Int.toNat_natCast, List.length_replicate]
  exact impl_BytesOf_in s t ht t k' _ 0 (by simp) (by omega) (by omega) (by omega) (fun j h => by omega)
theorem impl_BytesOf_not (s : Int) (t : Nat) (ht : t ≤ 6) (hs : s / 256 ^ t ≠ 1) (hlast : t = 6 ∨ s / 256 ^ t ≤ 1) {k : Nat} (hk : 20 < k) (hm : ∀ m, m < t → s / 256 ^ m > 1) : impl_BytesOf.f k s = some ([], false) := by
  unfold impl_BytesOf.f
  have h := impl_BytesOf_go s t ht hlast t k 0 (by omega) (by omega) (by omega) (fun m _ h => hm m h)
  rw [show ((0 : Nat) : Int) = 0 from rfl] at h
  rw [h]
  obtain ⟨k', hk'⟩ : ∃ m, k - t - 1 = m + 2 := ⟨k - t - 3, by omega⟩
  rw [hk']
  simp only [impl_BytesOf.j1]
  by_cases h1 : s < 1
  · rw [if_pos h1]; simp only [impl_BytesOf.j2, if_true]
  · rw [if_neg h1, w64 (x := 8 * (t : Int)) (by omega) (by omega), if_pos (by omega), shr8 s (by omega)]
    have hb : (s / 256 ^ t != 1) = true := bne_iff_ne.2 hs
    rw [hb]; simp only [impl_BytesOf.j2, if_true]
theorem below7 {P : Nat → Prop} {t : Nat} (ht : t ≤ 6) (h : (0 < t → P 0) ∧ (1 < t → P 1) ∧ (2 < t → P 2) ∧ (3 < t → P 3) ∧ (4 < t → P 4) ∧ (5 < t → P 5)) : ∀ m, m < t → P m := by
  intro m hm
  rcases (by omega : m = 0 ∨ m = 1 ∨ m = 2 ∨ m = 3 ∨ m = 4 ∨ m = 5) with rfl | rfl | rfl | rfl | rfl | rfl
  · exact h.1 hm
  · exact h.2.1 hm
  · exact h.2.2.1 hm
  · exact h.2.2.2.1 hm
  · exact h.2.2.2.2.1 hm
  · exact h.2.2.2.2.2 hm
theorem impl_BytesOf_v {k : Nat} (s : Int) (hk : 20 < k) : impl_BytesOf.f k s = some (bytesOfS s) := by
  have yes := fun (t : Nat) (h : t ≤ 6) h1 h2 h3 => impl_BytesOf_yes s t h h1 h2 hk h3
  have nope := fun (t : Nat) (h : t ≤ 6) h1 h2 h3 => impl_BytesOf_not s t h h1 h2 hk h3
  unfold bytesOfS
  by_cases c0 : s < 1
  · rw [if_pos c0, nope 0 (by omega) (by omega) (Or.inr (by omega)) (fun m h => by omega)]
  rw [if_neg c0]
  by_cases c1 : s < 2
  · rw [if_pos c1, yes 0 (by omega) (by omega) (by omega) (fun m h => by omega)]; rfl
  rw [if_neg c1]
  by_cases c2 : s < 256
  · rw [if_pos c2, nope 1 (by omega) (by omega) (Or.inr (by omega)) (below7 (by omega) ⟨by omega, by omega, by omega, by omega, by omega, by omega⟩)]
  rw [if_neg c2]
  by_cases c3 : s < 512
  · rw [if_pos c3, yes 1 (by omega) (by omega) (by omega) (below7 (by omega) ⟨by omega, by omega, by omega, by omega, by omega, by omega⟩)]
  rw [if_neg c3]
  by_cases c4 : s < 65536
  · rw [if_pos c4, nope 2 (by omega) (by omega) (Or.inr (by omega)) (below7 (by omega) ⟨by omega, by omega, by omega, by omega, by omega, by omega⟩)]
  rw [if_neg c4]
  by_cases c5 : s < 131072
  · rw [if_pos c5, yes 2 (by omega) (by omega) (by omega) (below7 (by omega) ⟨by omega, by omega, by omega, by omega, by omega, by omega⟩)]
  rw [if_neg c5]
  by_cases c6 : s < 16777216
  · rw [if_pos c6, nope 3 (by omega) (by omega) (Or.inr (by omega)) (below7 (by omega) ⟨by omega, by omega, by omega, by omega, by omega, by omega⟩)]
  rw [if_neg c6]
  by_cases c7 : s < 33554432
  · rw [if_pos c7, yes 3 (by omega) (by omega) (by omega) (below7 (by omega) ⟨by omega, by omega, by omega, by omega, by omega, by omega⟩)]
  rw [if_neg c7]
  by_cases c8 : s < 4294967296
  · rw [if_pos c8, nope 4 (by omega) (by omega) (Or.inr (by omega)) (below7 (by omega) ⟨by omega, by omega, by omega, by omega, by omega, by omega⟩)]
  rw [if_neg c8]
  by_cases c9 : s < 8589934592
  · rw [if_pos c9, yes 4 (by omega) (by omega) (by omega) (below7 (by omega) ⟨by omega, by omega, by omega, by omega, by omega, by omega⟩)]
  rw [if_neg c9]
  by_cases c10 : s < 1099511627776
  · rw [if_pos c10, nope 5 (by omega) (by omega) (Or.inr (by omega)) (below7 (by omega) ⟨by omega, by omega, by omega, by omega, by omega, by omega⟩)]
  rw [if_neg c10]
  by_cases c11 : s < 2199023255552
  · rw [if_pos c11, yes 5 (by omega) (by omega) (by omega) (below7 (by omega) ⟨by omega, by omega, by omega, by omega, by omega, by omega⟩)]
  rw [if_neg c11]
  by_cases c12 : s < 281474976710656
  · rw [if_pos c12, nope 6 (by omega) (by omega) (Or.inl rfl) (below7 (by omega) ⟨by omega, by omega, by omega, by omega, by omega, by omega⟩)]
  rw [if_neg c12]
  by_cases c13 : s < 562949953421312
  · rw [if_pos c13, yes 6 (by omega) (by omega) (by omega) (below7 (by omega) ⟨by omega, by omega, by omega, by omega, by omega, by omega⟩)]
  · rw [if_neg c13, nope 6 (by omega) (by omega) (Or.inl rfl) (below7 (by omega) ⟨by omega, by omega, by omega, by omega, by omega, by omega⟩)]

theorem FnExactBytesOf : laws_FnExactBytesOf.Pure := by
  intro s _
  refine exists_ge 100 _ (fun k hk => ?_)
  unfold laws_FnExactBytesOf.f
  have hs : (bytesOfS s).1.length ≤ 6 := bytesOfS_length s
  obtain ⟨k, rfl⟩ : ∃ m, k = m + 3 := ⟨k - 3, by omega⟩
  simp (disch := omega) only [spec_BytesOf_v, impl_BytesOf_v, laws_eqByteS_v, laws_markByteS_v, laws_heldByteS_v, Option.bind_some, decide_true, if_true, bne_self_eq_false, laws_FnExactBytesOf.j0, laws_FnExactBytesOf.j1, if_neg, Bool.false_eq_true, if_false]

end Go.Proofs.Ytjgnefmlckellaa.Pure
