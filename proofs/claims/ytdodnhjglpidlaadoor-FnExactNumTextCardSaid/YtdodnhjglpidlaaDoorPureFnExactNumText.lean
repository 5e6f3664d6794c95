/- The reference's NumText gives the decimal numeral of every int; no condition. -/
import Derived.Test.YtdodnhjglpidlaaDoorPFnExactNumTextx1
import Derived.Lib.ItoaNum
namespace Go.Proofs.YtdodnhjglpidlaaDoor.Pure
open Go Go.RowKit Go.Proofs.YtdodnhjglpidlaaDoor.PFnExactNumText Go.Proofs.YtdodnhjglpidlaaDoorW.PrintWords
/-- The digits of u, none for 0. -/
def dd (u : Nat) : List UInt8 := if u = 0 then [] else Lib.decDigits u
theorem dd_step {u : Nat} (h : u ≠ 0) : dd u = dd (u / 10) ++ [UInt8.ofNat (48 + u % 10)] := by
  unfold dd
  rw [if_neg h]
  by_cases h10 : u < 10
  · rw [Lib.decDigits_one h10, if_pos (by omega), Nat.mod_eq_of_lt h10]; rfl
  · rw [if_neg (by omega), Lib.decDigits, dif_neg h10]
theorem bytes_append (l m : List UInt8) : ((⟨l.toArray⟩ : ByteArray) ++ (⟨m.toArray⟩ : ByteArray)) = ⟨(l ++ m).toArray⟩ := by
  apply ByteArray.ext
  simp
theorem bytes_size (l : List UInt8) : (⟨l.toArray⟩ : ByteArray).size = l.length := by simp [ByteArray.size]
theorem strOfNums_one {u : Nat} (h : u < 10) : strOfNums [((48 + (u : Int)) % 256)] = ⟨[UInt8.ofNat (48 + u)].toArray⟩ := by
  have : ((48 + (u : Int)) % 256).toNat = 48 + u := by omega
  simp [strOfNums, this]
theorem spec_NumText_l (n : Int) (d : Nat) : ∀ (k : Nat) (acc : List UInt8) (x : Int), -9223372036854775808 ≤ x → x ≤ 9223372036854775807 → x.natAbs < 10 ^ d → acc.length + d ≤ 1000 → d + 1 < k →
    spec_NumText.l0 k n ⟨acc.toArray⟩ x = some ⟨((if n < 0 then [45] else []) ++ (dd x.natAbs ++ acc)).toArray⟩ := by
  have z : ∀ (k : Nat) (acc : List UInt8), acc.length ≤ 1000 → 0 < k → spec_NumText.l0 k n ⟨acc.toArray⟩ 0 = some ⟨((if n < 0 then [45] else []) ++ (dd 0 ++ acc)).toArray⟩ := by
    intro k acc ha hk
    obtain ⟨k, rfl⟩ : ∃ m, k = m + 1 := ⟨k - 1, by omega⟩
    simp only [spec_NumText.l0]
    rw [if_pos trivial]
    by_cases h : n < 0
    · rw [if_pos h, if_pos (by rw [bytes_size]; omega), if_pos h]
      exact congrArg some (bytes_append [45] acc)
    · rw [if_neg h, if_neg h]; rfl
  induction d with
  | zero =>
    intro k acc x h0 h1 hd ha hk
    have : x = 0 := by simp at hd; exact hd
    subst this
    exact z k acc (by omega) (by omega)
  | succ d ih =>
    intro k acc x h0 h1 hd ha hk
    by_cases hx : x = 0
    · subst hx; exact z k acc (by omega) (by omega)
    · obtain ⟨k, rfl⟩ : ∃ m, k = m + 1 := ⟨k - 1, by omega⟩
      rw [Nat.pow_succ] at hd
      have hs := dd_step (u := x.natAbs) (by omega)
      simp only [spec_NumText.l0]
      rw [if_neg hx]
      have hw : wrap64 (Int.tdiv x 10) = Int.tdiv x 10 := by
        rcases Int.lt_or_le x 0 with h | h
        · obtain ⟨u, rfl⟩ : ∃ u : Int, x = -u := ⟨-x, by omega⟩
          rw [Int.neg_tdiv, Int.tdiv_eq_ediv_of_nonneg (by omega)]; unfold wrap64; omega
        · rw [Int.tdiv_eq_ediv_of_nonneg h]; unfold wrap64; omega
      have hn : (Int.tdiv x 10).natAbs = x.natAbs / 10 ∧ -9223372036854775808 ≤ Int.tdiv x 10 ∧ Int.tdiv x 10 ≤ 9223372036854775807 := by
        rcases Int.lt_or_le x 0 with h | h
        · obtain ⟨u, rfl⟩ : ∃ u : Int, x = -u := ⟨-x, by omega⟩
          rw [Int.neg_tdiv, Int.tdiv_eq_ediv_of_nonneg (by omega)]; omega
        · rw [Int.tdiv_eq_ediv_of_nonneg h]; omega
      have hq : ∀ y : ByteArray, y = ⟨[UInt8.ofNat (48 + x.natAbs % 10)].toArray⟩ → (if y.size + (⟨acc.toArray⟩ : ByteArray).size ≤ 9223372036854775807 then spec_NumText.l0 k n (y ++ ⟨acc.toArray⟩) (wrap64 (Int.tdiv x 10)) else none) = some ⟨((if n < 0 then [45] else []) ++ (dd x.natAbs ++ acc)).toArray⟩ := by
        intro y hy
        subst hy
        rw [if_pos (by rw [bytes_size, bytes_size]; simp; omega), bytes_append, hw, ih k _ _ hn.2.1 hn.2.2 (by omega) (by simp; omega) (by omega), hs, hn.1]
        simp
      by_cases hneg : Int.tmod x 10 < 0
      · rw [if_pos hneg, Option.bind_some]
        apply hq
        obtain ⟨u, rfl⟩ : ∃ u : Int, x = -u := ⟨-x, by omega⟩
        have hu : 0 ≤ u := by
          rcases Int.lt_or_le u 0 with h | h
          · have := Int.tmod_nonneg (a := -u) 10 (by omega); omega
          · exact h
        rw [Int.neg_tmod, Int.tmod_eq_emod_of_nonneg hu, ← strOfNums_one (by omega)]
        have e1 : wrap64 (48 + wrap64 (-(-(u % 10)))) = 48 + (((-u).natAbs % 10 : Nat) : Int) := by unfold wrap64; omega
        rw [e1]
      · rw [if_neg hneg, Option.bind_some]
        apply hq
        have e1 : Int.tmod x 10 = ((x.natAbs % 10 : Nat) : Int) := by
          rcases Int.lt_or_le x 0 with h | h
          · obtain ⟨u, rfl⟩ : ∃ u : Int, x = -u := ⟨-x, by omega⟩
            rw [Int.neg_tmod, Int.tmod_eq_emod_of_nonneg (by omega)] at hneg ⊢
            omega
          · rw [Int.tmod_eq_emod_of_nonneg h]; omega
        rw [e1, ← strOfNums_one (by omega)]
        have e2 : wrap64 (48 + ((x.natAbs % 10 : Nat) : Int)) = 48 + ((x.natAbs % 10 : Nat) : Int) := by unfold wrap64; omega
        rw [e2]
theorem spec_NumText_v {k : Nat} (hk : 100 < k) {n : Int} (h0 : -9223372036854775808 ≤ n) (h1 : n ≤ 9223372036854775807) : spec_NumText.f k n = some ⟨(Lib.itoa n).toArray⟩ := by
  unfold spec_NumText.f Lib.itoa
  by_cases h : n = 0
  · subst h
    rw [if_pos rfl, if_neg (by decide), show (0 : Int).toNat = 0 from rfl, Lib.decDigits_one (by decide)]; rfl
  · have e := spec_NumText_l n 20 k [] n h0 h1 (by omega) (by decide) (by omega)
    rw [if_neg h, show (⟨#[]⟩ : ByteArray) = ⟨([] : List UInt8).toArray⟩ from rfl, e]
    have hdd : dd n.natAbs = Lib.decDigits n.natAbs := by unfold dd; rw [if_neg (by omega)]
    rw [hdd, List.append_nil]
    by_cases hn : n < 0
    · rw [if_pos hn, if_pos hn]; rfl
    · rw [if_neg hn, if_neg hn, show n.toNat = n.natAbs from by omega]; rfl
end Go.Proofs.YtdodnhjglpidlaaDoor.Pure
