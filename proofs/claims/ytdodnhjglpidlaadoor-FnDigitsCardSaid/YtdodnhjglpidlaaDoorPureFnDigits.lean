/- The draws of FnDigits, and what the functions of numbers that it calls compute; no condition. -/
import Derived.Test.YtdodnhjglpidlaaDoorPFnDigitsx4
import Derived.Test.YtdodnhjglpidlaaDoorLib
import Derived.Lib.ItoaNum
import Derived.Lib.Atoi
import Derived.Lib.AtoiAll
import Derived.Lib.Strings
set_option linter.unusedVariables false
set_option linter.unusedSimpArgs false
namespace Go.Proofs.YtdodnhjglpidlaaDoor.Pure
open Go Go.RowKit Go.Proofs.YtdodnhjglpidlaaDoor.PFnDigits Go.Proofs.YtdodnhjglpidlaaDoorW.PrintWords Go.Proofs.YtdodnhjglpidlaaDoor.Lib
theorem spec_l1In_v (a b c : Int) : spec_l1In.f a b c = some (decide (b ≤ a ∧ a ≤ c)) := by
  unfold spec_l1In.f
  by_cases h : b ≤ a
  · rw [if_pos h]; simp [h]
  · rw [if_neg h]; simp [h]
theorem impl_within_v (a b c : Int) : impl_within.f a b c = some (decide (b ≤ a ∧ a ≤ c)) := by
  unfold impl_within.f
  by_cases h : b ≤ a
  · rw [if_pos h]; simp [h]
  · rw [if_neg h]; simp [h]
theorem spec_Wrap_v {a m : Int} (h0 : 1 ≤ m) (h1 : m ≤ 1000000000000) : spec_Wrap.f a m = some (a % m) := by
  unfold spec_Wrap.f
  rw [spec_l1In_v, Option.bind_some, decide_eq_true (by omega), if_pos rfl, if_neg (by omega)]
  have h2 : a.tmod m = a - m * a.tdiv m := by have := Int.mul_tdiv_add_tmod a m; omega
  have h3 : -m < a.tmod m ∧ a.tmod m < m := ⟨by have := Int.lt_tmod_of_pos a (by omega : 0 < m); omega, Int.tmod_lt_of_pos a (by omega)⟩
  rw [w64 (by omega) (by omega), tmod_nn (by omega), Int.add_emod_right, h2, Int.sub_mul_emod_self_left]
theorem impl_Wrap_v {a m : Int} (h0 : 1 ≤ m) (h1 : m ≤ 1000000000000) : impl_Wrap.f a m = some (a % m) := by
  unfold impl_Wrap.f
  rw [impl_within_v, Option.bind_some, decide_eq_true (by omega), if_pos rfl, if_neg (by omega)]
  have h2 : a.tmod m = a - m * a.tdiv m := by have := Int.mul_tdiv_add_tmod a m; omega
  have h3 : -m < a.tmod m ∧ a.tmod m < m := ⟨by have := Int.lt_tmod_of_pos a (by omega : 0 < m); omega, Int.tmod_lt_of_pos a (by omega)⟩
  rw [w64 (by omega) (by omega), tmod_nn (by omega), Int.add_emod_right, h2, Int.sub_mul_emod_self_left]
theorem spec_CeilDiv_v {a b : Int} (h0 : 0 ≤ a) (h1 : a ≤ 1000000000000) (h2 : 1 ≤ b) (h3 : b ≤ 1000000000000) : spec_CeilDiv.f a b = some ((a + b - 1) / b) := by
  unfold spec_CeilDiv.f
  rw [spec_l1In_v, Option.bind_some, decide_eq_true (by omega), if_pos rfl, spec_l1In_v, Option.bind_some, decide_eq_true (by omega), if_pos rfl, if_neg (by omega), w64 (x := a + b) (by omega) (by omega), w64 (x := a + b - 1) (by omega) (by omega), tdiv_nn (by omega)]
  have h4 : 0 ≤ (a + b - 1) / b := Int.ediv_nonneg (by omega) (by omega)
  have h5 : (a + b - 1) / b ≤ a + b - 1 := Int.ediv_le_self _ (by omega)
  rw [w64 (by omega) (by omega)]
theorem impl_CeilDiv_v {a b : Int} (h0 : 0 ≤ a) (h1 : a ≤ 1000000000000) (h2 : 1 ≤ b) (h3 : b ≤ 1000000000000) : impl_CeilDiv.f a b = some ((a + b - 1) / b) := by
  unfold impl_CeilDiv.f
  rw [impl_within_v, Option.bind_some, decide_eq_true (by omega), if_pos rfl, impl_within_v, Option.bind_some, decide_eq_true (by omega), if_pos rfl, if_neg (by omega), w64 (x := a + b) (by omega) (by omega), w64 (x := a + b - 1) (by omega) (by omega), tdiv_nn (by omega)]
  have h4 : 0 ≤ (a + b - 1) / b := Int.ediv_nonneg (by omega) (by omega)
  have h5 : (a + b - 1) / b ≤ a + b - 1 := Int.ediv_le_self _ (by omega)
  rw [w64 (by omega) (by omega)]
theorem spec_Least_v (a b : Int) : spec_Least.f a b = some (mn a b) := by
  unfold spec_Least.f mn
  by_cases h : b < a
  · rw [if_pos h, if_pos h]
  · rw [if_neg h, if_neg h]
theorem laws_big_v (l : List Int) : laws_big.f l = some (decide ((l.length : Int) > 1048576)) := rfl
theorem spec_l1New_l (b : List Int) (hb : b.length ≤ 1048576) (d : Nat) : ∀ (k i : Nat) (h : Int), i ≤ b.length → b.length - i = d → d < k → ∃ h', spec_l1New.l0 k b h (i : Int) = some (b, 0, h') := by
  induction d with
  | zero =>
    intro k i h hi hd hk
    obtain ⟨k, rfl⟩ : ∃ m, k = m + 1 := ⟨k - 1, by omega⟩
    simp only [spec_l1New.l0]
    rw [if_neg (by omega)]
    exact ⟨_, rfl⟩
  | succ d ih =>
    intro k i h hi hd hk
    obtain ⟨k, rfl⟩ : ∃ m, k = m + 1 := ⟨k - 1, by omega⟩
    simp only [spec_l1New.l0]
    rw [if_pos (by omega)]
    by_cases h4 : (i : Int) < 4000
    · rw [if_pos h4, if_pos (by omega), wnat (by omega)]
      exact ih k (i + 1) _ (by omega) (by omega) (by omega)
    · rw [if_neg h4]; exact ⟨_, rfl⟩
theorem spec_l1New_x {k : Nat} {b : List Int} (hb : b.length ≤ 1048576) (hk : b.length < k) : ∃ h', spec_l1New.f k b = some (b, 0, h') := by
  unfold spec_l1New.f
  exact spec_l1New_l b hb b.length k 0 _ (by omega) (by omega) hk
theorem cur_start {b : List Int} (hb : b.length ≤ 1048576) : Cur b 0 := ⟨hb, by omega, by omega⟩
theorem spec_l1Byte_x {b : List Int} {i : Int} (hc : Cur b i) (h : Int) : ∃ r i' h', spec_l1Byte.f b i h = some (r, i', h') ∧ 0 ≤ r ∧ r ≤ 255 ∧ Cur b i' := by
  obtain ⟨h0, h1, h2⟩ := hc
  unfold spec_l1Byte.f
  by_cases hi : i < (b.length : Int)
  · rw [if_pos hi, if_pos h1, w64 (x := i + 1) (by omega) (by omega)]
    exact ⟨_, _, _, rfl, (and_le _).1, (and_le _).2, h0, by omega, by omega⟩
  · rw [if_neg hi]
    exact ⟨_, _, _, rfl, (and_le _).1, (and_le _).2, h0, h1, h2⟩
theorem spec_l1Below_x {b : List Int} {i : Int} (hc : Cur b i) (h : Int) (n : Int) : ∃ r i' h', spec_l1Below.f b i h n = some (r, i', h') ∧ 0 ≤ r ∧ (n ≤ 0 → r = 0) ∧ (0 < n → r < n) ∧ Cur b i' := by
  unfold spec_l1Below.f
  by_cases hn : n ≤ 0
  · rw [if_pos hn]
    exact ⟨_, _, _, rfl, by omega, fun _ => rfl, fun h => by omega, hc⟩
  · rw [if_neg hn]
    by_cases h256 : n ≤ 256
    · rw [if_pos h256]
      obtain ⟨r, i', h', e, r0, r1, hc'⟩ := spec_l1Byte_x hc h
      rw [e, Option.bind_some, if_neg (by omega)]
      refine ⟨_, _, _, rfl, ?_, fun h => by omega, fun _ => ?_, hc'⟩ <;> dsimp only <;> rw [tmod_nn r0]
      · exact Int.emod_nonneg _ (by omega)
      · exact Int.emod_lt_of_pos _ (by omega)
    · rw [if_neg h256]
      obtain ⟨r, i', h', e, r0, r1, hc'⟩ := spec_l1Byte_x hc h
      obtain ⟨s, i'', h'', e', s0, s1, hc''⟩ := spec_l1Byte_x hc' h'
      obtain ⟨t, i3, h3, e3, t0, t1, hc3⟩ := spec_l1Byte_x hc'' h''
      rw [e, Option.bind_some, e', Option.bind_some, e3, Option.bind_some, if_neg (by omega)]
      refine ⟨_, _, _, rfl, ?_, fun h => by omega, fun _ => ?_, hc3⟩ <;> dsimp only <;> rw [w64 (x := r * 65536) (by omega) (by omega), w64 (x := s * 256) (by omega) (by omega), w64 (x := r * 65536 + s * 256) (by omega) (by omega), w64 (x := r * 65536 + s * 256 + t) (by omega) (by omega), tmod_nn (by omega)]
      · exact Int.emod_nonneg _ (by omega)
      · exact Int.emod_lt_of_pos _ (by omega)
theorem spec_l1Int_x {b : List Int} {i : Int} (hc : Cur b i) (h : Int) {l : List Int} (hl : 0 < l.length) : ∃ r i' h', spec_l1Int.f b i h l = some (r, i', h') ∧ r ∈ l ∧ Cur b i' := by
  unfold spec_l1Int.f
  obtain ⟨r, i', h', e, r0, r1, r2, hc'⟩ := spec_l1Below_x hc h (l.length : Int)
  have := r2 (by omega)
  rw [e, Option.bind_some, if_pos r0, if_pos this]
  refine ⟨_, _, _, rfl, ?_, hc'⟩
  obtain ⟨m, rfl⟩ := Int.eq_ofNat_of_zero_le r0
  dsimp only
  rw [rd_at (by omega : m < l.length)]
  exact List.getElem_mem _
theorem spec_l1Once_x {b : List Int} {i : Int} (hc : Cur b i) (h : Int) (n : Int) : ∃ (r : Bool) (i' h' : Int), spec_l1Once.f b i h n = some (r, i', h') ∧ Cur b i' := by
  unfold spec_l1Once.f
  obtain ⟨r, i', h', e, r0, r1, r2, hc'⟩ := spec_l1Below_x hc h n
  rw [e, Option.bind_some]
  exact ⟨_, _, _, rfl, hc'⟩
/-- The digits of u, none for 0. -/
def dd (u : Nat) : List UInt8 := if u = 0 then [] else Lib.decDigits u
theorem dd_step {u : Nat} (h : u ≠ 0) : dd u = dd (u / 10) ++ [UInt8.ofNat (48 + u % 10)] := by
  unfold dd
  rw [if_neg h]
  by_cases h10 : u < 10
  · rw [Lib.decDigits_one h10, if_pos (by omega), Nat.mod_eq_of_lt h10]; rfl
  · rw [if_neg (by omega), Lib.decDigits, dif_neg h10]
theorem bytes_append (l m : List UInt8) : ((⟨l.toArray⟩ : ByteArray) ++ (⟨m.toArray⟩ : ByteArray)) = ⟨(l ++ m).toArray⟩ := by
  apply ByteArray.ext
  simp
theorem bytes_size (l : List UInt8) : (⟨l.toArray⟩ : ByteArray).size = l.length := by simp [ByteArray.size]
theorem strOfNums_one {u : Nat} (h : u < 10) : strOfNums [((48 + (u : Int)) % 256)] = ⟨[UInt8.ofNat (48 + u)].toArray⟩ := by
  have : ((48 + (u : Int)) % 256).toNat = 48 + u := by omega
  simp [strOfNums, this]
theorem spec_NumText_l (n : Int) (d : Nat) : ∀ (k : Nat) (acc : List UInt8) (x : Int), -9223372036854775808 ≤ x → x ≤ 9223372036854775807 → x.natAbs < 10 ^ d → acc.length + d ≤ 1000 → d + 1 < k →
    spec_NumText.l0 k n ⟨acc.toArray⟩ x = some ⟨((if n < 0 then [45] else []) ++ (dd x.natAbs ++ acc)).toArray⟩ := by
  have z : ∀ (k : Nat) (acc : List UInt8), acc.length ≤ 1000 → 0 < k → spec_NumText.l0 k n ⟨acc.toArray⟩ 0 = some ⟨((if n < 0 then [45] else []) ++ (dd 0 ++ acc)).toArray⟩ := by
    intro k acc ha hk
    obtain ⟨k, rfl⟩ : ∃ m, k = m + 1 := ⟨k - 1, by omega⟩
    simp only [spec_NumText.l0]
    rw [if_pos trivial]
    by_cases h : n < 0
    · rw [if_pos h, if_pos (by rw [bytes_size]; omega), if_pos h]
      exact congrArg some (bytes_append [45] acc)
    · rw [if_neg h, if_neg h]; rfl
  induction d with
  | zero =>
    intro k acc x h0 h1 hd ha hk
    have : x = 0 := by simp at hd; exact hd
    subst this
    exact z k acc (by omega) (by omega)
  | succ d ih =>
    intro k acc x h0 h1 hd ha hk
    by_cases hx : x = 0
    · subst hx; exact z k acc (by omega) (by omega)
    · obtain ⟨k, rfl⟩ : ∃ m, k = m + 1 := ⟨k - 1, by omega⟩
      rw [Nat.pow_succ] at hd
      have hs := dd_step (u := x.natAbs) (by omega)
      simp only [spec_NumText.l0]
      rw [if_neg hx]
      have hw : wrap64 (Int.tdiv x 10) = Int.tdiv x 10 := by
        rcases Int.lt_or_le x 0 with h | h
        · obtain ⟨u, rfl⟩ : ∃ u : Int, x = -u := ⟨-x, by omega⟩
          rw [Int.neg_tdiv, Int.tdiv_eq_ediv_of_nonneg (by omega)]; unfold wrap64; omega
        · rw [Int.tdiv_eq_ediv_of_nonneg h]; unfold wrap64; omega
      have hn : (Int.tdiv x 10).natAbs = x.natAbs / 10 ∧ -9223372036854775808 ≤ Int.tdiv x 10 ∧ Int.tdiv x 10 ≤ 9223372036854775807 := by
        rcases Int.lt_or_le x 0 with h | h
        · obtain ⟨u, rfl⟩ : ∃ u : Int, x = -u := ⟨-x, by omega⟩
          rw [Int.neg_tdiv, Int.tdiv_eq_ediv_of_nonneg (by omega)]; omega
        · rw [Int.tdiv_eq_ediv_of_nonneg h]; omega
      have hq : ∀ y : ByteArray, y = ⟨[UInt8.ofNat (48 + x.natAbs % 10)].toArray⟩ → (if y.size + (⟨acc.toArray⟩ : ByteArray).size ≤ 9223372036854775807 then spec_NumText.l0 k n (y ++ ⟨acc.toArray⟩) (wrap64 (Int.tdiv x 10)) else none) = some ⟨((if n < 0 then [45] else []) ++ (dd x.natAbs ++ acc)).toArray⟩ := by
        intro y hy
        subst hy
        rw [if_pos (by rw [bytes_size, bytes_size]; simp; omega), bytes_append, hw, ih k _ _ hn.2.1 hn.2.2 (by omega) (by simp; omega) (by omega), hs, hn.1]
        simp
      by_cases hneg : Int.tmod x 10 < 0
      · rw [if_pos hneg, Option.bind_some]
        apply hq
        obtain ⟨u, rfl⟩ : ∃ u : Int, x = -u := ⟨-x, by omega⟩
        have hu : 0 ≤ u := by
          rcases Int.lt_or_le u 0 with h | h
          · have := Int.tmod_nonneg (a := -u) 10 (by omega); omega
          · exact h
        rw [Int.neg_tmod, Int.tmod_eq_emod_of_nonneg hu, ← strOfNums_one (by omega)]
        have e1 : wrap64 (48 + wrap64 (-(-(u % 10)))) = 48 + (((-u).natAbs % 10 : Nat) : Int) := by unfold wrap64; omega
        rw [e1]
      · rw [if_neg hneg, Option.bind_some]
        apply hq
        have e1 : Int.tmod x 10 = ((x.natAbs % 10 : Nat) : Int) := by
          rcases Int.lt_or_le x 0 with h | h
          · obtain ⟨u, rfl⟩ : ∃ u : Int, x = -u := ⟨-x, by omega⟩
            rw [Int.neg_tmod, Int.tmod_eq_emod_of_nonneg (by omega)] at hneg ⊢
            omega
          · rw [Int.tmod_eq_emod_of_nonneg h]; omega
        rw [e1, ← strOfNums_one (by omega)]
        have e2 : wrap64 (48 + ((x.natAbs % 10 : Nat) : Int)) = 48 + ((x.natAbs % 10 : Nat) : Int) := by unfold wrap64; omega
        rw [e2]
theorem spec_NumText_v {k : Nat} (hk : 100 < k) {n : Int} (h0 : -9223372036854775808 ≤ n) (h1 : n ≤ 9223372036854775807) : spec_NumText.f k n = some ⟨(Lib.itoa n).toArray⟩ := by
  unfold spec_NumText.f Lib.itoa
  by_cases h : n = 0
  · subst h
    rw [if_pos rfl, if_neg (by decide), show (0 : Int).toNat = 0 from rfl, Lib.decDigits_one (by decide)]; rfl
  · have e := spec_NumText_l n 20 k [] n h0 h1 (by omega) (by decide) (by omega)
    rw [if_neg h, show (⟨#[]⟩ : ByteArray) = ⟨([] : List UInt8).toArray⟩ from rfl, e]
    have hdd : dd n.natAbs = Lib.decDigits n.natAbs := by unfold dd; rw [if_neg (by omega)]
    rw [hdd, List.append_nil]
    by_cases hn : n < 0
    · rw [if_pos hn, if_pos hn]; rfl
    · rw [if_neg hn, if_neg hn, show n.toNat = n.natAbs from by omega]; rfl
theorem digit_toNat {d : Nat} (h : d < 10) : (UInt8.ofNat (48 + d)).toNat = 48 + d := by
  simp; omega
theorem decDigits_big {u : Nat} (h : ¬ u < 10) : Lib.decDigits u = Lib.decDigits (u / 10) ++ [UInt8.ofNat (48 + u % 10)] := by rw [Lib.decDigits, dif_neg h]
theorem decDigits_digits (u : Nat) : Lib.decDigits u ≠ [] ∧ ∀ c ∈ Lib.decDigits u, 48 ≤ c.toNat ∧ c.toNat ≤ 57 := by
  induction u using Nat.strongRecOn with
  | _ u ih =>
    by_cases h : u < 10
    · rw [Lib.decDigits_one h]
      refine ⟨by simp, fun c hc => ?_⟩
      rw [List.mem_singleton.1 hc, digit_toNat h]; omega
    · rw [decDigits_big h]
      refine ⟨by simp, fun c hc => ?_⟩
      rcases List.mem_append.1 hc with hc | hc
      · exact (ih (u / 10) (by omega)).2 c hc
      · rw [List.mem_singleton.1 hc, digit_toNat (by omega)]; omega
theorem decDigits_len : ∀ (k u : Nat), u < 10 ^ (k + 1) → 1 ≤ (Lib.decDigits u).length ∧ (Lib.decDigits u).length ≤ k + 1 := by
  intro k
  induction k with
  | zero => intro u h; rw [Lib.decDigits_one (by simpa using h)]; simp
  | succ k ih =>
    intro u h
    by_cases h10 : u < 10
    · rw [Lib.decDigits_one h10]; simp
    · rw [Nat.pow_succ] at h
      have := ih (u / 10) (by omega)
      rw [decDigits_big h10]; simp; omega
theorem parseUint10_snoc : ∀ (l : List UInt8) (acc u : Nat) (c : UInt8), Lib.parseUint10 acc l = .ok u → Lib.parseUint10 acc (l ++ [c]) = Lib.parseUint10 u [c]
  | [], acc, u, c, h => by
    simp only [Lib.parseUint10] at h
    injection h with h
    subst h; rfl
  | b :: r, acc, u, c, h => by
    simp only [Lib.parseUint10, List.cons_append] at h ⊢
    split at h
    · rename_i h1
      rw [if_pos h1]
      split at h
      · cases h
      · rename_i h2
        rw [if_neg h2]
        split at h
        · cases h
        · rename_i h3
          rw [if_neg h3]
          have := parseUint10_snoc r _ u c h
          simpa only [Lib.parseUint10] using this
    · cases h
theorem decFrom_snoc : ∀ (l : List UInt8) (acc u : Nat) (c : UInt8), Lib.decFrom acc l = some u → Lib.decFrom acc (l ++ [c]) = Lib.decFrom u [c]
  | [], acc, u, c, h => by
    simp only [Lib.decFrom] at h
    injection h with h
    subst h; rfl
  | b :: r, acc, u, c, h => by
    simp only [Lib.decFrom, List.cons_append] at h ⊢
    cases hb : Lib.digitVal b with
    | none => rw [hb] at h; cases h
    | some d =>
      rw [hb] at h
      have := decFrom_snoc r _ u c h
      simpa only [Lib.decFrom] using this
theorem parse_decDigits (u : Nat) (hu : u ≤ 1000000000000) : Lib.parseUint10 0 (Lib.decDigits u) = .ok u := by
  induction u using Nat.strongRecOn with
  | _ u ih =>
    by_cases h : u < 10
    · rw [Lib.decDigits_one h]
      simp only [Lib.parseUint10, digit_toNat h]
      rw [if_pos (by omega), if_neg (by omega), if_neg (by omega)]
      congr 1; omega
    · rw [decDigits_big h, parseUint10_snoc _ _ _ _ (ih (u / 10) (by omega) (by omega))]
      simp only [Lib.parseUint10, digit_toNat (show u % 10 < 10 by omega)]
      rw [if_pos (by omega), if_neg (by omega), if_neg (by omega)]
      congr 1; omega
theorem decFrom_decDigits (u : Nat) : Lib.decFrom 0 (Lib.decDigits u) = some u := by
  induction u using Nat.strongRecOn with
  | _ u ih =>
    by_cases h : u < 10
    · rw [Lib.decDigits_one h]
      simp only [Lib.decFrom, Lib.digitVal, digit_toNat h]
      rw [if_pos (by omega)]
      simp
    · rw [decDigits_big h, decFrom_snoc _ _ _ _ (ih (u / 10) (by omega))]
      simp only [Lib.decFrom, Lib.digitVal, digit_toNat (show u % 10 < 10 by omega)]
      rw [if_pos (by omega)]
      simp; omega
theorem atoiAll_decDigits (u : Nat) (hu : u ≤ 1000000000000) : Lib.atoiAll (Lib.decDigits u) = .ok (u : Int) := by
  have hp := parse_decDigits u hu
  obtain ⟨h1, h2⟩ := decDigits_digits u
  cases hl : Lib.decDigits u with
  | nil => exact absurd hl h1
  | cons c r =>
    rw [hl] at hp h2
    have hc := h2 c (by simp)
    simp only [Lib.atoiAll]
    rw [if_neg (by omega)]
    unfold Lib.parseMag
    rw [if_neg (by simp), hp]
    dsimp only
    rw [if_neg (by omega), if_neg (by omega), if_neg (by omega)]
/-- What a numeral of this program is: the number's and the bytes' relation. -/
def isNum (l : List UInt8) (u : Nat) : Prop := u ≤ 1000000000000 ∧ Lib.decDigits u = l
theorem isNum_inj {l : List UInt8} {u v : Nat} (h : isNum l u) (h' : isNum l v) : u = v := by
  have e := decFrom_decDigits u
  rw [h.2, ← h'.2, decFrom_decDigits] at e
  exact (Option.some.inj e).symm
open Classical in
/-- The number and the flag that ParseNum returns. -/
noncomputable def pn (l : List UInt8) : Int × Bool := if h : ∃ u, isNum l u then (((Classical.choose h : Nat) : Int), true) else (0, false)
theorem pn_yes {l : List UInt8} {u : Nat} (h : isNum l u) : pn l = ((u : Int), true) := by
  have hx : ∃ u, isNum l u := ⟨u, h⟩
  unfold pn
  rw [dif_pos hx, isNum_inj (Classical.choose_spec hx) h]
theorem pn_no {l : List UInt8} (h : ∀ u, ¬ isNum l u) : pn l = (0, false) := by
  unfold pn
  rw [dif_neg (fun hx => h _ hx.choose_spec)]
theorem bt_get {s : ByteArray} {i : Nat} (h : i < s.data.toList.length) : bt s (i : Int) = ((s.data.toList[i].toNat : Nat) : Int) := by
  have hs : i < s.size := by rw [Array.length_toList] at h; exact h
  have := bt_at s (i : Int) (by simpa using hs)
  rw [← this]
  simp only [Int.toNat_natCast, Array.getElem_toList]
  rfl
theorem wr64 {x : Int} (h0 : -9223372036854775808 ≤ x) (h1 : x ≤ 9223372036854775807) : wrap64 x = x := by unfold wrap64; omega
theorem spec_ParseNum_l (s : ByteArray) (hs : s.data.toList.length ≤ 13) (d : Nat) : ∀ (k i n : Nat), i ≤ s.data.toList.length → s.data.toList.length - i = d → n < 10 ^ i → d + 200 < k →
    spec_ParseNum.l0 k s (n : Int) (i : Int) = some (match Lib.decFrom n (s.data.toList.drop i) with
      | none => (0, false)
      | some m => if m ≤ 1000000000000 ∧ Lib.decDigits m = s.data.toList then ((m : Int), true) else (0, false)) := by
  have hsz : (s.size : Int) = (s.data.toList.length : Int) := by rw [Array.length_toList]; rfl
  induction d with
  | zero =>
    intro k i n hi hd hn hk
    obtain ⟨k, rfl⟩ : ∃ m, k = m + 1 := ⟨k - 1, by omega⟩
    have hp : (10 : Nat) ^ i ≤ 10 ^ 13 := Nat.pow_le_pow_right (by decide) (by omega)
    simp only [spec_ParseNum.l0]
    rw [if_neg (by omega), List.drop_eq_nil_of_le (by omega)]
    simp only [Lib.decFrom]
    by_cases h : (n : Int) > 1000000000000
    · rw [if_pos h, if_neg (fun g => by have := g.1; omega)]
    · have e2 : Lib.itoa (n : Int) = Lib.decDigits n := by unfold Lib.itoa; rw [if_neg (by omega)]; simp
      rw [if_neg h, spec_NumText_v (by omega) (by omega) (by omega), Option.bind_some, e2, Lib.toList_data, Lib.toList_data]
      by_cases e : Lib.decDigits n = s.data.toList
      · rw [if_pos (by simpa using e), if_pos ⟨by omega, e⟩]
      · rw [if_neg (by simpa using e), if_neg (fun g => e g.2)]
  | succ d ih =>
    intro k i n hi hd hn hk
    obtain ⟨k, rfl⟩ : ∃ m, k = m + 1 := ⟨k - 1, by omega⟩
    have hp : (10 : Nat) ^ i ≤ 1000000000000 := Nat.le_trans (Nat.pow_le_pow_right (by decide) (by omega)) (by decide : (10 : Nat) ^ 12 ≤ 1000000000000)
    have hnb : n < 1000000000000 := Nat.lt_of_lt_of_le hn hp
    have hlt : i < s.data.toList.length := by omega
    have hb := bt_range s (i : Int)
    have hg := bt_get hlt
    rw [List.drop_eq_getElem_cons hlt]
    simp only [spec_ParseNum.l0, Lib.decFrom]
    generalize s.data.toList[i] = c at *
    generalize bt s (i : Int) = y at *
    rw [if_pos (by omega), if_pos (by omega), wr64 (x := y) (by omega) (by omega), spec_l1In_v, Option.bind_some]
    unfold Lib.digitVal
    by_cases h : 48 ≤ c.toNat ∧ c.toNat ≤ 57
    · have h' : 48 ≤ y ∧ y ≤ 57 := by omega
      have b1 : n * 10 + (c.toNat - 48) < 10 ^ (i + 1) := by rw [Nat.pow_succ]; omega
      rw [decide_eq_true h', if_pos rfl, wr64 (x := 10 * (n : Int)) (by omega) (by omega), show (y - 48) % 256 = y - 48 from by omega, wr64 (x := 10 * (n : Int) + (y - 48)) (by omega) (by omega), wr64 (x := (i : Int) + 1) (by omega) (by omega),
        show 10 * (n : Int) + (y - 48) = ((n * 10 + (c.toNat - 48) : Nat) : Int) from by omega, show (i : Int) + 1 = ((i + 1 : Nat) : Int) from rfl, if_pos h]
      exact ih k (i + 1) _ (by omega) (by omega) b1 (by omega)
    · have h' : ¬ (48 ≤ y ∧ y ≤ 57) := by omega
      rw [decide_eq_false h', if_neg (by decide), if_neg h]
theorem spec_ParseNum_v {k : Nat} (hk : 1000 < k) (s : ByteArray) : spec_ParseNum.f k s = some (pn s.data.toList) := by
  have hsz : (s.size : Int) = (s.data.toList.length : Int) := by rw [Array.length_toList]; rfl
  unfold spec_ParseNum.f
  rw [spec_l1In_v, Option.bind_some]
  by_cases hl : 1 ≤ (s.size : Int) ∧ (s.size : Int) ≤ 13
  · have h := spec_ParseNum_l s (by omega) s.data.toList.length k 0 0 (by omega) (by omega) (by decide) (by omega)
    rw [decide_eq_true hl, if_pos rfl]
    rw [show ((0 : Nat) : Int) = 0 from rfl, List.drop_zero] at h
    rw [h]
    congr 1
    cases hd : Lib.decFrom 0 s.data.toList with
    | none =>
      refine (pn_no fun u hu => ?_).symm
      rw [← hu.2, decFrom_decDigits] at hd; cases hd
    | some m =>
      dsimp only
      by_cases hm : m ≤ 1000000000000 ∧ Lib.decDigits m = s.data.toList
      · rw [if_pos hm, pn_yes hm]
      · rw [if_neg hm]
        refine (pn_no fun u hu => ?_).symm
        rw [← hu.2, decFrom_decDigits] at hd
        obtain rfl := Option.some.inj hd
        exact hm hu
  · rw [decide_eq_false hl, if_neg (by decide), pn_no]
    intro u hu
    have := decDigits_len 12 u (by have := hu.1; omega)
    rw [hu.2] at this
    omega
/-- By how the library's parse ends. -/
theorem pn_ok {l : List UInt8} {v : Int} (h : Lib.atoiAll l = .ok v) : pn l = if 0 ≤ v ∧ v ≤ 1000000000000 ∧ Lib.itoa v = l then (v, true) else (0, false) := by
  by_cases hc : 0 ≤ v ∧ v ≤ 1000000000000 ∧ Lib.itoa v = l
  · obtain ⟨h0, h1, h2⟩ := hc
    obtain ⟨u, rfl⟩ := Int.eq_ofNat_of_zero_le h0
    have e2 : Lib.itoa (u : Int) = Lib.decDigits u := by unfold Lib.itoa; rw [if_neg (by omega)]; simp
    rw [if_pos ⟨h0, h1, h2⟩, pn_yes (u := u) ⟨by omega, by rw [← e2]; exact h2⟩]
  · rw [if_neg hc, pn_no]
    intro u hu
    have e := atoiAll_decDigits u hu.1
    rw [hu.2, h] at e
    injection e with e
    subst e
    refine hc ⟨by omega, by have := hu.1; omega, ?_⟩
    unfold Lib.itoa; rw [if_neg (by omega)]; simpa using hu.2
theorem pn_bad {l : List UInt8} (h : ∀ v, Lib.atoiAll l ≠ .ok v) : pn l = (0, false) := pn_no fun u hu => h u (by rw [← hu.2]; exact atoiAll_decDigits u hu.1)

def I64 (n : Int) : Prop := -9223372036854775808 ≤ n ∧ n ≤ 9223372036854775807
theorem wrap_I64 (n : Int) : I64 (wrap64 n) := by unfold I64 wrap64; omega
theorem spec_l1Odd_b {b : List Int} {i : Int} (hc : Cur b i) (h : Int) : ∃ r i' h', spec_l1Odd.f b i h = some (r, i', h') ∧ I64 r ∧ Cur b i' := by
  unfold spec_l1Odd.f
  obtain ⟨r, i', h', e, hr, c⟩ := spec_l1Int_x hc h (l := [(-1), 0, 1, 2, 255, 256, 65535, 2147483647, 2147483648, 4294967295, 4294967296, (-2147483648), 9223372036854775807, (-9223372036854775808)]) (by decide)
  rw [e, Option.bind_some]
  refine ⟨_, _, _, rfl, ?_, c⟩
  simp only [List.mem_cons, List.not_mem_nil, or_false] at hr
  unfold I64; dsimp only; omega
theorem spec_l1Raw_b {b : List Int} {i : Int} (hc : Cur b i) (h : Int) : ∃ r i' h', spec_l1Raw.f b i h = some (r, i', h') ∧ I64 r ∧ Cur b i' := by
  unfold spec_l1Raw.f
  obtain ⟨o, i1, h1, e1, c1⟩ := spec_l1Once_x hc h 2
  rw [e1, Option.bind_some]
  cases o with
  | true =>
    obtain ⟨r, i2, h2, e2, hr, c2⟩ := spec_l1Odd_b c1 h1
    rw [if_pos rfl, e2, Option.bind_some]
    exact ⟨_, _, _, rfl, hr, c2⟩
  | false =>
    obtain ⟨r, i2, h2, e2, hr, c2⟩ := spec_l1Int_x c1 h1 (l := [(-1), 1000000000000, 1000000000001]) (by decide)
    rw [if_neg (by simp), e2, Option.bind_some]
    refine ⟨_, _, _, rfl, ?_, c2⟩
    simp only [List.mem_cons, List.not_mem_nil, or_false] at hr
    unfold I64; dsimp only; omega
theorem spec_l1Num_b {b : List Int} {i : Int} (hc : Cur b i) (h : Int) : ∃ r i' h', spec_l1Num.f b i h = some (r, i', h') ∧ (0 ≤ r ∧ r ≤ 1000000000000) ∧ Cur b i' := by
  unfold spec_l1Num.f
  obtain ⟨o, i1, h1, e1, _, _, _, c1⟩ := spec_l1Below_x hc h 4
  rw [e1, Option.bind_some]
  dsimp only
  by_cases q0 : o = 0
  · obtain ⟨r, i2, h2, e2, r0, _, r2, c2⟩ := spec_l1Below_x c1 h1 2000
    have := r2 (by omega)
    rw [if_pos q0, e2, Option.bind_some]
    exact ⟨_, _, _, rfl, ⟨r0, by dsimp only; omega⟩, c2⟩
  · rw [if_neg q0]
    by_cases q1 : o = 1
    · obtain ⟨r, i2, h2, e2, hr, c2⟩ := spec_l1Int_x c1 h1 (l := [0, 1, 127, 128, 250, 251, 1000000000000]) (by decide)
      rw [if_pos q1, e2, Option.bind_some]
      refine ⟨_, _, _, rfl, ?_, c2⟩
      simp only [List.mem_cons, List.not_mem_nil, or_false] at hr
      dsimp only; omega
    · rw [if_neg q1]
      by_cases q2 : o = 2
      · obtain ⟨r, i2, h2, e2, r0, _, r2, c2⟩ := spec_l1Below_x c1 h1 1000000
        obtain ⟨s, i3, h3, e3, s0, _, s2, c3⟩ := spec_l1Below_x c2 h2 1000000
        have := r2 (by omega)
        have := s2 (by omega)
        have hm := mul_bd (A := 1000000) (B := 1000000) r0 (by omega) s0 (by omega)
        rw [if_pos q2, e2, Option.bind_some, e3, Option.bind_some]
        dsimp only
        rw [w64 (by omega) (by omega)]
        exact ⟨_, _, _, rfl, ⟨hm.1, by have := hm.2; omega⟩, c3⟩
      · obtain ⟨r, i2, h2, e2, r0, _, r2, c2⟩ := spec_l1Below_x c1 h1 20
        have := r2 (by omega)
        rw [if_neg q2, e2, Option.bind_some]
        exact ⟨_, _, _, rfl, ⟨r0, by dsimp only; omega⟩, c2⟩
theorem spec_l1One_b {b : List Int} {i : Int} (hc : Cur b i) (h : Int) : ∃ r i' h', spec_l1One.f b i h = some (r, i', h') ∧ I64 r ∧ Cur b i' := by
  unfold spec_l1One.f
  obtain ⟨o, i1, h1, e1, c1⟩ := spec_l1Once_x hc h 6
  rw [e1, Option.bind_some]
  cases o with
  | true =>
    obtain ⟨r, i2, h2, e2, hr, c2⟩ := spec_l1Raw_b c1 h1
    rw [if_pos rfl, e2, Option.bind_some]
    exact ⟨_, _, _, rfl, hr, c2⟩
  | false =>
    obtain ⟨r, i2, h2, e2, hr, c2⟩ := spec_l1Num_b c1 h1
    rw [if_neg (by simp), e2, Option.bind_some]
    exact ⟨_, _, _, rfl, ⟨by dsimp only; omega, by dsimp only; omega⟩, c2⟩
theorem spec_DrawNumText_x {k : Nat} {b : List Int} (hb : b.length ≤ 1048576) (hk : 1049000 < k) : ∃ n, spec_DrawNumText.f k b = some n ∧ I64 n := by
  unfold spec_DrawNumText.f
  obtain ⟨h, e⟩ := spec_l1New_x (k := k) hb (by omega)
  obtain ⟨r, i1, h1, e1, hr, c1⟩ := spec_l1One_b (cur_start hb) h
  rw [e, Option.bind_some, e1, Option.bind_some]
  exact ⟨_, rfl, hr⟩
theorem spec_DrawCeilDiv_x {k : Nat} {b : List Int} (hb : b.length ≤ 1048576) (hk : 1049000 < k) : ∃ x y, spec_DrawCeilDiv.f k b = some (x, y) := by
  unfold spec_DrawCeilDiv.f
  obtain ⟨h, e⟩ := spec_l1New_x (k := k) hb (by omega)
  obtain ⟨r, i1, h1, e1, hr, c1⟩ := spec_l1One_b (cur_start hb) h
  obtain ⟨s, i2, h2, e2, hs, c2⟩ := spec_l1One_b c1 h1
  rw [e, Option.bind_some, e1, Option.bind_some, e2, Option.bind_some]
  exact ⟨_, _, rfl⟩
theorem spec_DrawLeast_x {k : Nat} {b : List Int} (hb : b.length ≤ 1048576) (hk : 1049000 < k) : ∃ x y, spec_DrawLeast.f k b = some (x, y) := by
  unfold spec_DrawLeast.f
  obtain ⟨h, e⟩ := spec_l1New_x (k := k) hb (by omega)
  obtain ⟨r, i1, h1, e1, hr, c1⟩ := spec_l1One_b (cur_start hb) h
  obtain ⟨s, i2, h2, e2, hs, c2⟩ := spec_l1One_b c1 h1
  rw [e, Option.bind_some, e1, Option.bind_some, e2, Option.bind_some]
  exact ⟨_, _, rfl⟩
theorem spec_DrawWrap_x {k : Nat} {b : List Int} (hb : b.length ≤ 1048576) (hk : 1049000 < k) : ∃ x y, spec_DrawWrap.f k b = some (x, y) ∧ I64 x := by
  unfold spec_DrawWrap.f
  obtain ⟨h, e⟩ := spec_l1New_x (k := k) hb (by omega)
  obtain ⟨r, i1, h1, e1, hr, c1⟩ := spec_l1One_b (cur_start hb) h
  obtain ⟨s, i2, h2, e2, _, _, _, c2⟩ := spec_l1Below_x c1 h1 9
  obtain ⟨t, i3, h3, e3, _, c3⟩ := spec_l1Int_x c2 h2 (l := [1, 2, 7, 251, 0, (-3)]) (by decide)
  rw [e, Option.bind_some, e1, Option.bind_some, e2, Option.bind_some, e3, Option.bind_some]
  exact ⟨_, _, rfl, wrap_I64 _⟩
theorem rdOf_mem {α : Type} (d : α) (l : List α) (i : Int) (h0 : 0 ≤ i) (h1 : i < (l.length : Int)) : rdOf d l i ∈ l := by
  have h : i.toNat < l.length := by omega
  have : rdOf d l i = l[i.toNat] := by
    show l.getD i.toNat d = _
    rw [List.getD_eq_getElem?_getD, List.getElem?_eq_getElem h]; rfl
  rw [this]; exact List.getElem_mem h
theorem spec_l1Str_x {b : List Int} {i : Int} (hc : Cur b i) (h : Int) {l : List ByteArray} (hl : 0 < l.length) : ∃ r i' h', spec_l1Str.f b i h l = some (r, i', h') ∧ r ∈ l ∧ Cur b i' := by
  unfold spec_l1Str.f
  obtain ⟨r, i', h', e, r0, _, r2, hc'⟩ := spec_l1Below_x hc h (l.length : Int)
  have := r2 (by omega)
  rw [e, Option.bind_some, if_pos r0, if_pos this]
  exact ⟨_, _, _, rfl, rdOf_mem _ _ _ r0 this, hc'⟩
theorem spec_DrawParseNum_x {k : Nat} {b : List Int} (hb : b.length ≤ 1048576) (hk : 1049000 < k) : ∃ s, spec_DrawParseNum.f k b = some s ∧ s.size ≤ 1000 := by
  unfold spec_DrawParseNum.f
  obtain ⟨h, e⟩ := spec_l1New_x (k := k) hb (by omega)
  obtain ⟨o, i1, h1, e1, c1⟩ := spec_l1Once_x (cur_start hb) h 2
  rw [e, Option.bind_some, e1, Option.bind_some]
  cases o with
  | true =>
    rw [if_pos rfl]
    obtain ⟨r, i2, h2, e2, hr, c2⟩ := spec_l1Str_x c1 h1 (l := [(⟨#[]⟩ : ByteArray), (⟨#[48]⟩ : ByteArray), (⟨#[48, 48]⟩ : ByteArray), (⟨#[45, 49]⟩ : ByteArray), (⟨#[48, 49]⟩ : ByteArray), (⟨#[55]⟩ : ByteArray), (⟨#[49, 48, 48, 48, 48, 48, 48, 48, 48, 48, 48, 48, 48]⟩ : ByteArray), (⟨#[49, 48, 48, 48, 48, 48, 48, 48, 48, 48, 48, 48, 49]⟩ : ByteArray), (⟨#[57, 57, 57, 57, 57, 57, 57, 57, 57, 57, 57, 57, 57, 57]⟩ : ByteArray), (⟨#[49, 120]⟩ : ByteArray), (⟨#[32, 49]⟩ : ByteArray)]) (by simp)
    rw [e2, Option.bind_some]
    refine ⟨_, rfl, ?_⟩
    simp only [List.mem_cons, List.not_mem_nil, or_false] at hr
    rcases hr with rfl | rfl | rfl | rfl | rfl | rfl | rfl | rfl | rfl | rfl | rfl <;> (dsimp only; decide)
  | false =>
    obtain ⟨r, i2, h2, e2, hr, c2⟩ := spec_l1Num_b c1 h1
    rw [if_neg (by simp), e2, Option.bind_some]
    dsimp only
    rw [spec_NumText_v (by omega) (by omega) (by omega), Option.bind_some]
    refine ⟨_, rfl, ?_⟩
    rw [bytes_size]
    have hd := decDigits_len 12 r.toNat (by omega)
    unfold Lib.itoa
    rw [if_neg (by omega)]; omega
def cd (a b : Int) : Int := if (0 ≤ a ∧ a ≤ 1000000000000) ∧ (1 ≤ b ∧ b ≤ 1000000000000) then (a + b - 1) / b else 0
def wq (a m : Int) : Int := if 1 ≤ m ∧ m ≤ 1000000000000 then a % m else 0
theorem impl_CeilDiv_t (a b : Int) : impl_CeilDiv.f a b = some (cd a b) := by
  unfold cd
  by_cases h : (0 ≤ a ∧ a ≤ 1000000000000) ∧ (1 ≤ b ∧ b ≤ 1000000000000)
  · rw [if_pos h, impl_CeilDiv_v h.1.1 h.1.2 h.2.1 h.2.2]
  · rw [if_neg h]
    unfold impl_CeilDiv.f
    rw [impl_within_v, Option.bind_some]
    by_cases h1 : 0 ≤ a ∧ a ≤ 1000000000000
    · rw [decide_eq_true h1, if_pos rfl, impl_within_v, Option.bind_some, decide_eq_false (fun g => h ⟨h1, g⟩), if_neg (by decide)]
    · rw [decide_eq_false h1, if_neg (by decide)]
theorem spec_CeilDiv_t (a b : Int) : spec_CeilDiv.f a b = some (cd a b) := by
  unfold cd
  by_cases h : (0 ≤ a ∧ a ≤ 1000000000000) ∧ (1 ≤ b ∧ b ≤ 1000000000000)
  · rw [if_pos h, spec_CeilDiv_v h.1.1 h.1.2 h.2.1 h.2.2]
  · rw [if_neg h]
    unfold spec_CeilDiv.f
    rw [spec_l1In_v, Option.bind_some]
    by_cases h1 : 0 ≤ a ∧ a ≤ 1000000000000
    · rw [decide_eq_true h1, if_pos rfl, spec_l1In_v, Option.bind_some, decide_eq_false (fun g => h ⟨h1, g⟩), if_neg (by decide)]
    · rw [decide_eq_false h1, if_neg (by decide)]
theorem impl_Wrap_t (a m : Int) : impl_Wrap.f a m = some (wq a m) := by
  unfold wq
  by_cases h : 1 ≤ m ∧ m ≤ 1000000000000
  · rw [if_pos h, impl_Wrap_v h.1 h.2]
  · rw [if_neg h]
    unfold impl_Wrap.f
    rw [impl_within_v, Option.bind_some, decide_eq_false h, if_neg (by decide)]
theorem spec_Wrap_t (a m : Int) : spec_Wrap.f a m = some (wq a m) := by
  unfold wq
  by_cases h : 1 ≤ m ∧ m ≤ 1000000000000
  · rw [if_pos h, spec_Wrap_v h.1 h.2]
  · rw [if_neg h]
    unfold spec_Wrap.f
    rw [spec_l1In_v, Option.bind_some, decide_eq_false h, if_neg (by decide)]
theorem spec_Most_v (a b : Int) : spec_Most.f a b = some (mx a b) := by
  unfold spec_Most.f mx
  by_cases h : a < b
  · rw [if_pos (by omega), if_pos h]
  · rw [if_neg (by omega), if_neg h]
/-- The remainder as Go's '%' gives it, and as Wrap does. -/
theorem wq_facts {a m : Int} (h : 1 ≤ m ∧ m ≤ 1000000000000) : 0 ≤ wq a m ∧ wq a m < m ∧ (Int.tmod a m = wq a m ∨ Int.tmod a m = wq a m - m) := by
  unfold wq
  rw [if_pos h]
  have h0 := Int.emod_nonneg a (by omega : m ≠ 0)
  have h1 := Int.emod_lt_of_pos a (by omega : 0 < m)
  refine ⟨h0, h1, ?_⟩
  rcases Int.lt_or_le a 0 with hn | hn
  · obtain ⟨u, rfl⟩ : ∃ u : Int, a = -u := ⟨-a, by omega⟩
    rw [Int.neg_tmod, Int.tmod_eq_emod_of_nonneg (by omega)]
    have e1 := Int.emod_nonneg u (by omega : m ≠ 0)
    have e2 := Int.emod_lt_of_pos u (by omega : 0 < m)
    have e3 := Int.mul_ediv_add_emod u m
    have e4 := Int.mul_ediv_add_emod (-u) m
    by_cases hz : u % m = 0
    · left
      have : (-u) % m = 0 := Int.emod_eq_zero_of_dvd (Int.dvd_neg.2 (Int.dvd_of_emod_eq_zero hz))
      omega
    · right
      have e5 : (-u) % m = m - u % m := by
        have : -u = (m - u % m) + m * (-(u / m) - 1) := by rw [Int.mul_sub, Int.mul_neg]; omega
        rw [this, Int.add_mul_emod_self_left, Int.emod_eq_of_lt (by omega) (by omega)]
      omega
  · left; exact Int.tmod_eq_emod_of_nonneg hn
/-- What ParseNum gives of NumText. -/
theorem pn_itoa (n : Int) : pn (Lib.itoa n) = if 0 ≤ n ∧ n ≤ 1000000000000 then (n, true) else (0, false) := by
  by_cases h : 0 ≤ n ∧ n ≤ 1000000000000
  · obtain ⟨u, rfl⟩ := Int.eq_ofNat_of_zero_le h.1
    rw [if_pos h, pn_yes (u := u) ⟨by omega, by unfold Lib.itoa; rw [if_neg (by omega)]; simp⟩]
  · rw [if_neg h, pn_no]
    intro u hu
    have hd := decDigits_digits u
    unfold Lib.itoa at hu
    rcases Int.lt_or_le n 0 with hn | hn
    · rw [if_pos hn] at hu
      have := hd.2 45 (by rw [hu.2]; simp)
      simp at this
    · rw [if_neg (by omega)] at hu
      have e1 := decFrom_decDigits u
      rw [hu.2, decFrom_decDigits] at e1
      have := Option.some.inj e1
      have := hu.1
      omega
/-- What ParseNum takes is NumText's. -/
theorem pn_true {l : List UInt8} (h : (pn l).2 = true) : 0 ≤ (pn l).1 ∧ (pn l).1 ≤ 1000000000000 ∧ Lib.itoa (pn l).1 = l := by
  by_cases hx : ∃ u, isNum l u
  · obtain ⟨u, hu⟩ := hx
    rw [pn_yes hu]
    refine ⟨by dsimp only; omega, by have := hu.1; dsimp only; omega, ?_⟩
    unfold Lib.itoa
    rw [if_neg (by dsimp only; omega)]
    simpa using hu.2
  · rw [pn_no (fun u hu => hx ⟨u, hu⟩)] at h; cases h
theorem pn_I64 (l : List UInt8) : -9223372036854775808 ≤ (pn l).1 ∧ (pn l).1 ≤ 9223372036854775807 := by
  by_cases h : (pn l).2 = true
  · have := pn_true h; omega
  · by_cases hx : ∃ u, isNum l u
    · obtain ⟨u, hu⟩ := hx
      rw [pn_yes hu] at h; exact absurd rfl h
    · rw [pn_no (fun u hu => hx ⟨u, hu⟩)]; exact ⟨by decide, by decide⟩
theorem itoa_size {n : Int} (hn : I64 n) : (⟨(Lib.itoa n).toArray⟩ : ByteArray).size ≤ 281474976710656 := by
  obtain ⟨h0, h1⟩ := hn
  rw [bytes_size]
  unfold Lib.itoa
  split
  · have := decDigits_len 19 n.natAbs (by omega)
    simp only [List.length_cons]; omega
  · have := decDigits_len 19 n.toNat (by omega)
    omega
end Go.Proofs.YtdodnhjglpidlaaDoor.Pure
