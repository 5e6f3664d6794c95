/- PutPart returns what the reference's PutPart returns, in memory of its own, and leaves its arguments as they were, for all arguments; no condition. -/
import Derived.Test.YtbhpnckebecffaaPFnExactPutPartx2
import Derived.Test.YtbhpnckebecffaaLib
set_option linter.unusedVariables false
set_option linter.unusedSimpArgs false
namespace Go.Proofs.Ytbhpnckebecffaa.Pure
open Go.RowKit Go.Proofs.Ytbhpnckebecffaa.PFnExactPutPart Go.Proofs.YtbhpnckebecffaaW.PrintWords Go.Proofs.YtbhpnckebecffaaW.PrintLast Go.Proofs.YtbhpnckebecffaaW.PrintMore Go.Proofs.Ytbhpnckebecffaa.Lib

theorem spec_l1In_v (a b c : Int) : spec_l1In.f a b c = some (decide (b ≤ a ∧ a ≤ c)) := by
  unfold spec_l1In.f
  by_cases h : b ≤ a
  · rw [if_pos h]; simp [h]
  · rw [if_neg h]; simp [h]

theorem impl_within_v (a b c : Int) : impl_within.f a b c = some (decide (b ≤ a ∧ a ≤ c)) := by
  unfold impl_within.f
  by_cases h : b ≤ a
  · rw [if_pos h]; simp [h]
  · rw [if_neg h]; simp [h]

theorem laws_toByteS_l (l : List Int) (hl : l.length ≤ 140737488351232) (d : Nat) : ∀ (k : Nat) (out : List Int) (i : Nat), out.length = l.length → i ≤ l.length → l.length - i = d → d < k →
    (∀ j, j < i → out[j]? = l[j]?) → laws_toByteS.l0 k l out (i : Int) = some l := by
  induction d with
  | zero =>
    intro k out i ho hi hd hk hj
    obtain ⟨k, rfl⟩ : ∃ m, k = m + 1 := ⟨k - 1, by omega⟩
    simp only [laws_toByteS.l0]
    rw [if_neg (by omega)]
    congr 1
    apply List.ext_getElem?
    intro j
    by_cases hjl : j < i
    · exact hj j hjl
    · rw [List.getElem?_eq_none (by omega), List.getElem?_eq_none (by omega)]
  | succ d ih =>
    intro k out i ho hi hd hk hj
    obtain ⟨k, rfl⟩ : ∃ m, k = m + 1 := ⟨k - 1, by omega⟩
    simp only [laws_toByteS.l0]
    rw [if_pos (by omega), if_pos (by omega), if_pos (by omega), wnat (by omega), rd_at (by omega : i < l.length)]
    refine ih k _ (i + 1) (by simp [ho]) (by omega) (by omega) (by omega) (fun j h => ?_)
    rw [Int.toNat_natCast, List.getElem?_set]
    by_cases e : i = j
    · subst e; rw [if_pos rfl, if_pos (by omega), List.getElem?_eq_getElem]
    · rw [if_neg e]; exact hj j (by omega)
theorem laws_toByteS_v {k : Nat} {l : List Int} (hl : l.length ≤ 140737488351232) (hk : l.length < k) : laws_toByteS.f k l = some l := by
  unfold laws_toByteS.f
  rw [if_pos (by omega), if_pos (by omega)]
  exact laws_toByteS_l l hl l.length k _ 0 (by simp) (by omega) (by omega) hk (fun j h => by omega)

theorem laws_eqByteS_l (a b : List Int) (hab : a.length = b.length) (hl : a.length ≤ 140737488355328) (d : Nat) : ∀ (k : Nat) (i : Nat), i ≤ a.length → a.length - i = d → d < k →
    laws_eqByteS.l0 k a b (i : Int) = some (decide (a.drop i = b.drop i)) := by
  induction d with
  | zero =>
    intro k i hi hd hk
    obtain ⟨k, rfl⟩ : ∃ m, k = m + 1 := ⟨k - 1, by omega⟩
    simp only [laws_eqByteS.l0]
    rw [if_neg (by omega), List.drop_eq_nil_of_le (by omega), List.drop_eq_nil_of_le (by omega)]
    rfl
  | succ d ih =>
    intro k i hi hd hk
    obtain ⟨k, rfl⟩ : ∃ m, k = m + 1 := ⟨k - 1, by omega⟩
    simp only [laws_eqByteS.l0]
    rw [if_pos (by omega), if_pos (by omega), if_pos (by omega), wnat (by omega), rd_at (by omega : i < a.length), rd_at (by omega : i < b.length), ih k (i + 1) (by omega) (by omega) (by omega)]
    have e := drop_eq_iff (a := a) (b := b) (i := i) (by omega) (by omega)
    by_cases h : a[i]'(by omega) = b[i]'(by omega)
    · rw [if_pos h]; simp only [e, h, true_and]
    · rw [if_neg h]; simp only [e, h, false_and, decide_false]
theorem laws_eqByteS_v {k : Nat} {a b : List Int} (hl : a.length ≤ 140737488355328) (hk : a.length < k) : laws_eqByteS.f k a b = some (decide (a = b)) := by
  unfold laws_eqByteS.f
  by_cases h : a.length = b.length
  · rw [if_pos (by omega)]
    exact laws_eqByteS_l a b h hl a.length k 0 (by omega) (by omega) hk
  · rw [if_neg (by omega)]
    have : a ≠ b := fun e => h (by rw [e])
    simp [this]

theorem laws_markByteS_l (c : Int) (n : Nat) (hc : 0 ≤ c) (hl : c + n ≤ 4611686018427387904) (d : Nat) : ∀ (k : Nat) (x : List Int) (i : Nat), x.length = n → i ≤ n → n - i = d → d < k →
    (∀ j, j < i → x[j]? = (markB c n)[j]?) → laws_markByteS.l0 k x (c + (i : Int)) (i : Int) = some (c + (n : Int), markB c n) := by
  induction d with
  | zero =>
    intro k x i hx hi hd hk hj
    obtain ⟨k, rfl⟩ : ∃ m, k = m + 1 := ⟨k - 1, by omega⟩
    simp only [laws_markByteS.l0]
    rw [if_neg (by omega), ext_all hx (markB_length c n) (fun j h => hj j (by omega)), show i = n from by omega]
  | succ d ih =>
    intro k x i hx hi hd hk hj
    obtain ⟨k, rfl⟩ : ∃ m, k = m + 1 := ⟨k - 1, by omega⟩
    simp only [laws_markByteS.l0]
    rw [if_pos (by omega), if_pos (by omega), wnat (by omega), w64 (by omega) (by omega), show c + (i : Int) + 1 = c + ((i + 1 : Nat) : Int) from by omega]
    exact ih k _ (i + 1) (by simp [hx]) (by omega) (by omega) (by omega) (set_step (by omega) hj (markB_get c n i (by omega)))
theorem laws_markByteS_v {k : Nat} {x : List Int} {c : Int} (hc : 0 ≤ c) (hl : c + x.length ≤ 4611686018427387904) (hk : x.length < k) : laws_markByteS.f k x c = some (c + (x.length : Int), markB c x.length) := by
  unfold laws_markByteS.f
  have h := laws_markByteS_l c x.length hc hl x.length k x 0 rfl (by omega) (by omega) hk (fun j h => by omega)
  rw [show c + ((0 : Nat) : Int) = c from by omega] at h
  exact h

theorem laws_heldByteS_l (c : Int) (n : Nat) (hc : 0 ≤ c) (hl : c + n ≤ 4611686018427387904) (d : Nat) : ∀ (k : Nat) (i : Nat), i ≤ n → n - i = d → d < k →
    laws_heldByteS.l0 k (markB c n) (c + (i : Int)) (i : Int) = some (c + (n : Int)) := by
  induction d with
  | zero =>
    intro k i hi hd hk
    obtain ⟨k, rfl⟩ : ∃ m, k = m + 1 := ⟨k - 1, by omega⟩
    simp only [laws_heldByteS.l0, markB_length]
    rw [if_neg (by omega), show i = n from by omega]
  | succ d ih =>
    intro k i hi hd hk
    obtain ⟨k, rfl⟩ : ∃ m, k = m + 1 := ⟨k - 1, by omega⟩
    simp only [laws_heldByteS.l0, markB_length]
    rw [if_pos (by omega), if_pos (by omega), markB_rd c n i (by omega), if_pos rfl, wnat (by omega), w64 (by omega) (by omega), show c + (i : Int) + 1 = c + ((i + 1 : Nat) : Int) from by omega]
    exact ih k (i + 1) (by omega) (by omega) (by omega)
theorem laws_heldByteS_v {k : Nat} {n : Nat} {c : Int} (hc : 0 ≤ c) (hl : c + n ≤ 4611686018427387904) (hk : n < k) : laws_heldByteS.f k (markB c n) c = some (c + (n : Int)) := by
  unfold laws_heldByteS.f
  have h := laws_heldByteS_l c n hc hl n k 0 (by omega) (by omega) hk
  rw [show c + ((0 : Nat) : Int) = c from by omega] at h
  exact h

theorem impl_cloned_v {l : List Int} (hl : l.length ≤ 140737488351232) : impl_cloned.f l = some l := by
  unfold impl_cloned.f
  rw [if_pos (by omega), if_pos (by omega)]
  simp only [List.replicate_zero, Option.bind_some, List.nil_append, List.length_nil]
  rw [if_pos (by omega)]

theorem spec_PutVar_l (f : Nat) : ∀ (k : Nat) (n : Int) (b : List Int), f ≤ 8 → 0 ≤ n → n < 128 ^ (f + 1) → b.length ≤ 140737488355000 - f → f < k → spec_PutVar.l0 k n b = some (b ++ vr f n) := by
  induction f with
  | zero =>
    intro k n b hf h0 h1 hb hk
    obtain ⟨k, rfl⟩ : ∃ m, k = m + 1 := ⟨k - 1, by omega⟩
    simp only [spec_PutVar.l0]
    rw [if_neg (by omega), if_pos (by omega), vr]
    rw [Int.emod_eq_of_lt (by omega) (by omega)]
  | succ f ih =>
    intro k n b hf h0 h1 hb hk
    obtain ⟨k, rfl⟩ : ∃ m, k = m + 1 := ⟨k - 1, by omega⟩
    simp only [spec_PutVar.l0]
    have hn : n < 9223372036854775808 := by
      have : (128 : Int) ^ (f + 1 + 1) ≤ 128 ^ 9 := pow128_le (by omega)
      omega
    rw [Int.pow_succ] at h1
    rw [vr]
    by_cases h : n < 128
    · rw [if_neg (by omega), if_pos (by omega), if_pos h, Int.emod_eq_of_lt (by omega) (by omega)]
    · rw [if_pos (by omega), if_pos (by omega), if_neg h, and127n h0 hn, or128 (by omega) (by omega), ih k _ _ (by omega) (by omega) (by omega) (by simp; omega) (by omega)]
      rw [Int.emod_eq_of_lt (by omega) (by omega)]
      simp
theorem spec_PutVar_v {k : Nat} {l : List Int} (hl : l.length ≤ 140737488351232) (n : Int) (hk : 20 < k) : spec_PutVar.f k l n = some (putVar l n) := by
  unfold spec_PutVar.f putVar
  simp only [Option.bind_some, List.length_nil, List.nil_append, spec_l1In_v]
  rw [if_pos (by omega)]
  by_cases h : 0 ≤ n ∧ n ≤ 1000000000000
  · rw [decide_eq_true h, if_pos rfl, if_pos h, spec_PutVar_l 8 k n l (by omega) h.1 (by omega) (by omega) (by omega)]
  · rw [decide_eq_false h, if_neg (by decide), if_neg h]

theorem impl_appendVar_l (f : Nat) : ∀ (k : Nat) (n : Int) (b : List Int), f ≤ 8 → 0 ≤ n → n < 128 ^ (f + 1) → b.length ≤ 140737488355000 - f → f < k → impl_appendVar.l0 k b n = some (b ++ vr f n) := by
  induction f with
  | zero =>
    intro k n b hf h0 h1 hb hk
    obtain ⟨k, rfl⟩ : ∃ m, k = m + 1 := ⟨k - 1, by omega⟩
    simp only [impl_appendVar.l0]
    rw [if_neg (by omega), if_pos (by omega), vr]
    rw [Int.emod_eq_of_lt (by omega) (by omega)]
  | succ f ih =>
    intro k n b hf h0 h1 hb hk
    obtain ⟨k, rfl⟩ : ∃ m, k = m + 1 := ⟨k - 1, by omega⟩
    simp only [impl_appendVar.l0]
    rw [Int.pow_succ] at h1
    rw [vr]
    by_cases h : n < 128
    · rw [if_neg (by omega), if_pos (by omega), if_pos h, Int.emod_eq_of_lt (by omega) (by omega)]
    · rw [if_pos (by omega), if_pos (by omega), if_neg h, or128u (by omega) (by omega), ih k _ _ (by omega) (by omega) (by omega) (by simp; omega) (by omega)]
      rw [show n % 256 % 128 = n % 128 from by omega]
      simp
theorem impl_appendVar_v {k : Nat} {l : List Int} (hl : l.length ≤ 140737488352000) {n : Int} (h0 : 0 ≤ n) (h1 : n < 9223372036854775808) (hk : 20 < k) : impl_appendVar.f k l n = some (l ++ vr 8 n) := by
  unfold impl_appendVar.f
  exact impl_appendVar_l 8 k n l (by omega) h0 (by omega) (by omega) (by omega)

theorem impl_PutVar_v {k : Nat} {l : List Int} (hl : l.length ≤ 140737488351232) (n : Int) (hk : 20 < k) : impl_PutVar.f k l n = some (putVar l n) := by
  unfold impl_PutVar.f putVar
  rw [impl_cloned_v hl, Option.bind_some, impl_within_v, Option.bind_some]
  by_cases h : 0 ≤ n ∧ n ≤ 1000000000000
  · rw [decide_eq_true h, if_pos rfl, if_pos h, impl_appendVar_v (by omega) h.1 (by omega) hk]; rfl
  · rw [decide_eq_false h, if_neg (by decide), if_neg h]

theorem spec_PutPart_v {k : Nat} {l s : List Int} (hl : l.length ≤ 1000000000000) (hs : s.length ≤ 1000000000000) (hk : 20 < k) : spec_PutPart.f k l s = some (putPart l s) := by
  unfold spec_PutPart.f putPart
  have h := putVar_length l (s.length : Int)
  rw [spec_PutVar_v (by omega) _ hk, Option.bind_some, if_pos (by omega)]

theorem impl_PutPart_v {k : Nat} {l s : List Int} (hl : l.length ≤ 1000000000000) (hs : s.length ≤ 1000000000000) (hk : 20 < k) : impl_PutPart.f k l s = some (putPart l s) := by
  unfold impl_PutPart.f putPart
  have h := putVar_length l (s.length : Int)
  rw [impl_PutVar_v (by omega) _ hk, Option.bind_some, if_pos (by omega)]

theorem FnExactPutPart : laws_FnExactPutPart.Pure := by
  intro l s hm hr hw hm' hr' hw'
  refine exists_ge 2097380 _ (fun k hk => ?_)
  unfold laws_FnExactPutPart.f
  by_cases hbig : (l.length : Int) > 1048576
  · rw [if_pos hbig]
  · by_cases hbig' : (s.length : Int) > 1048576
    · rw [if_neg hbig, if_pos hbig']
    · rw [if_neg hbig, if_neg hbig']
      have hs := putPart_length l s
      obtain ⟨k, rfl⟩ : ∃ m, k = m + 3 := ⟨k - 3, by omega⟩
      have n1 : ¬ (1 + (l.length : Int) + (s.length : Int) < 0) := by omega
      have n2 : ¬ (1 + ((putPart l s).length : Int) < 0) := by omega
      simp (disch := omega) only [laws_toByteS_v, spec_PutPart_v, impl_PutPart_v, laws_eqByteS_v, laws_markByteS_v, laws_heldByteS_v, n1, n2, Option.bind_some, decide_true, if_true, if_false, bne_self_eq_false, Bool.false_eq_true, Bool.not_true, Bool.not_false]
      simp only [laws_FnExactPutPart.j0, Bool.false_eq_true, if_false]
      simp (disch := omega) only [laws_toByteS_v, spec_PutPart_v, impl_PutPart_v, laws_eqByteS_v, laws_markByteS_v, laws_heldByteS_v, n1, n2, Option.bind_some, decide_true, if_true, if_false, bne_self_eq_false, Bool.false_eq_true, Bool.not_true, Bool.not_false]

end Go.Proofs.Ytbhpnckebecffaa.Pure
