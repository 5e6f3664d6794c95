/- The reference's ParseNum of every string, as a plain function of its bytes; and what the library's parse gives of it; no condition. -/
import Derived.Test.YtdodnhjglpidlaaDoorPFnExactParseNumx1
import Derived.Test.YtdodnhjglpidlaaDoorPFnExactParseNumx3
import Derived.Lib.ItoaNum
import Derived.Lib.Atoi
import Derived.Lib.AtoiAll
import Derived.Lib.Strings
namespace Go.Proofs.YtdodnhjglpidlaaDoor.Pure
open Go Go.RowKit Go.Proofs.YtdodnhjglpidlaaDoor.PFnExactParseNum Go.Proofs.YtdodnhjglpidlaaDoorW.PrintWords
/-- The digits of u, none for 0. -/
def dd (u : Nat) : List UInt8 := if u = 0 then [] else Lib.decDigits u
theorem dd_step {u : Nat} (h : u ≠ 0) : dd u = dd (u / 10) ++ [UInt8.ofNat (48 + u % 10)] := by
  unfold dd
  rw [if_neg h]
  by_cases h10 : u < 10
  · rw [Lib.decDigits_one h10, if_pos (by omega), Nat.mod_eq_of_lt h10]; rfl
  · rw [if_neg (by omega), Lib.decDigits, dif_neg h10]
theorem bytes_append (l m : List UInt8) : ((⟨l.toArray⟩ : ByteArray) ++ (⟨m.toArray⟩ : ByteArray)) = ⟨(l ++ m).toArray⟩ := by
  apply ByteArray.ext
  simp
theorem bytes_size (l : List UInt8) : (⟨l.toArray⟩ : ByteArray).size = l.length := by simp [ByteArray.size]
theorem strOfNums_one {u : Nat} (h : u < 10) : strOfNums [((48 + (u : Int)) % 256)] = ⟨[UInt8.ofNat (48 + u)].toArray⟩ := by
  have : ((48 + (u : Int)) % 256).toNat = 48 + u := by omega
  simp [strOfNums, this]
theorem spec_NumText_l (n : Int) (d : Nat) : ∀ (k : Nat) (acc : List UInt8) (x : Int), -9223372036854775808 ≤ x → x ≤ 9223372036854775807 → x.natAbs < 10 ^ d → acc.length + d ≤ 1000 → d + 1 < k →
    spec_NumText.l0 k n ⟨acc.toArray⟩ x = some ⟨((if n < 0 then [45] else []) ++ (dd x.natAbs ++ acc)).toArray⟩ := by
  have z : ∀ (k : Nat) (acc : List UInt8), acc.length ≤ 1000 → 0 < k → spec_NumText.l0 k n ⟨acc.toArray⟩ 0 = some ⟨((if n < 0 then [45] else []) ++ (dd 0 ++ acc)).toArray⟩ := by
    intro k acc ha hk
    obtain ⟨k, rfl⟩ : ∃ m, k = m + 1 := ⟨k - 1, by omega⟩
    simp only [spec_NumText.l0]
    rw [if_pos trivial]
    by_cases h : n < 0
    · rw [if_pos h, if_pos (by rw [bytes_size]; omega), if_pos h]
      exact congrArg some (bytes_append [45] acc)
    · rw [if_neg h, if_neg h]; rfl
  induction d with
  | zero =>
    intro k acc x h0 h1 hd ha hk
    have : x = 0 := by simp at hd; exact hd
    subst this
    exact z k acc (by omega) (by omega)
  | succ d ih =>
    intro k acc x h0 h1 hd ha hk
    by_cases hx : x = 0
    · subst hx; exact z k acc (by omega) (by omega)
    · obtain ⟨k, rfl⟩ : ∃ m, k = m + 1 := ⟨k - 1, by omega⟩
      rw [Nat.pow_succ] at hd
      have hs := dd_step (u := x.natAbs) (by omega)
      simp only [spec_NumText.l0]
      rw [if_neg hx]
      have hw : wrap64 (Int.tdiv x 10) = Int.tdiv x 10 := by
        rcases Int.lt_or_le x 0 with h | h
        · obtain ⟨u, rfl⟩ : ∃ u : Int, x = -u := ⟨-x, by omega⟩
          rw [Int.neg_tdiv, Int.tdiv_eq_ediv_of_nonneg (by omega)]; unfold wrap64; omega
        · rw [Int.tdiv_eq_ediv_of_nonneg h]; unfold wrap64; omega
      have hn : (Int.tdiv x 10).natAbs = x.natAbs / 10 ∧ -9223372036854775808 ≤ Int.tdiv x 10 ∧ Int.tdiv x 10 ≤ 9223372036854775807 := by
        rcases Int.lt_or_le x 0 with h | h
        · obtain ⟨u, rfl⟩ : ∃ u : Int, x = -u := ⟨-x, by omega⟩
          rw [Int.neg_tdiv, Int.tdiv_eq_ediv_of_nonneg (by omega)]; omega
        · rw [Int.tdiv_eq_ediv_of_nonneg h]; omega
      have hq : ∀ y : ByteArray, y = ⟨[UInt8.ofNat (48 + x.natAbs % 10)].toArray⟩ → (if y.size + (⟨acc.toArray⟩ : ByteArray).size ≤ 9223372036854775807 then spec_NumText.l0 k n (y ++ ⟨acc.toArray⟩) (wrap64 (Int.tdiv x 10)) else none) = some ⟨((if n < 0 then [45] else []) ++ (dd x.natAbs ++ acc)).toArray⟩ := by
        intro y hy
        subst hy
        rw [if_pos (by rw [bytes_size, bytes_size]; simp; omega), bytes_append, hw, ih k _ _ hn.2.1 hn.2.2 (by omega) (by simp; omega) (by omega), hs, hn.1]
        simp
      by_cases hneg : Int.tmod x 10 < 0
      · rw [if_pos hneg, Option.bind_some]
        apply hq
        obtain ⟨u, rfl⟩ : ∃ u : Int, x = -u := ⟨-x, by omega⟩
        have hu : 0 ≤ u := by
          rcases Int.lt_or_le u 0 with h | h
          · have := Int.tmod_nonneg (a := -u) 10 (by omega); omega
          · exact h
        rw [Int.neg_tmod, Int.tmod_eq_emod_of_nonneg hu, ← strOfNums_one (by omega)]
        have e1 : wrap64 (48 + wrap64 (-(-(u % 10)))) = 48 + (((-u).natAbs % 10 : Nat) : Int) := by unfold wrap64; omega
        rw [e1]
      · rw [if_neg hneg, Option.bind_some]
        apply hq
        have e1 : Int.tmod x 10 = ((x.natAbs % 10 : Nat) : Int) := by
          rcases Int.lt_or_le x 0 with h | h
          · obtain ⟨u, rfl⟩ : ∃ u : Int, x = -u := ⟨-x, by omega⟩
            rw [Int.neg_tmod, Int.tmod_eq_emod_of_nonneg (by omega)] at hneg ⊢
            omega
          · rw [Int.tmod_eq_emod_of_nonneg h]; omega
        rw [e1, ← strOfNums_one (by omega)]
        have e2 : wrap64 (48 + ((x.natAbs % 10 : Nat) : Int)) = 48 + ((x.natAbs % 10 : Nat) : Int) := by unfold wrap64; omega
        rw [e2]
theorem spec_NumText_v {k : Nat} (hk : 100 < k) {n : Int} (h0 : -9223372036854775808 ≤ n) (h1 : n ≤ 9223372036854775807) : spec_NumText.f k n = some ⟨(Lib.itoa n).toArray⟩ := by
  unfold spec_NumText.f Lib.itoa
  by_cases h : n = 0
  · subst h
    rw [if_pos rfl, if_neg (by decide), show (0 : Int).toNat = 0 from rfl, Lib.decDigits_one (by decide)]; rfl
  · have e := spec_NumText_l n 20 k [] n h0 h1 (by omega) (by decide) (by omega)
    rw [if_neg h, show (⟨#[]⟩ : ByteArray) = ⟨([] : List UInt8).toArray⟩ from rfl, e]
    have hdd : dd n.natAbs = Lib.decDigits n.natAbs := by unfold dd; rw [if_neg (by omega)]
    rw [hdd, List.append_nil]
    by_cases hn : n < 0
    · rw [if_pos hn, if_pos hn]; rfl
    · rw [if_neg hn, if_neg hn, show n.toNat = n.natAbs from by omega]; rfl
theorem digit_toNat {d : Nat} (h : d < 10) : (UInt8.ofNat (48 + d)).toNat = 48 + d := by
  simp; omega
theorem decDigits_big {u : Nat} (h : ¬ u < 10) : Lib.decDigits u = Lib.decDigits (u / 10) ++ [UInt8.ofNat (48 + u % 10)] := by rw [Lib.decDigits, dif_neg h]
theorem decDigits_digits (u : Nat) : Lib.decDigits u ≠ [] ∧ ∀ c ∈ Lib.decDigits u, 48 ≤ c.toNat ∧ c.toNat ≤ 57 := by
  induction u using Nat.strongRecOn with
  | _ u ih =>
    by_cases h : u < 10
    · rw [Lib.decDigits_one h]
      refine ⟨by simp, fun c hc => ?_⟩
      rw [List.mem_singleton.1 hc, digit_toNat h]; omega
    · rw [decDigits_big h]
      refine ⟨by simp, fun c hc => ?_⟩
      rcases List.mem_append.1 hc with hc | hc
      · exact (ih (u / 10) (by omega)).2 c hc
      · rw [List.mem_singleton.1 hc, digit_toNat (by omega)]; omega
theorem decDigits_len : ∀ (k u : Nat), u < 10 ^ (k + 1) → 1 ≤ (Lib.decDigits u).length ∧ (Lib.decDigits u).length ≤ k + 1 := by
  intro k
  induction k with
  | zero => intro u h; rw [Lib.decDigits_one (by simpa using h)]; simp
  | succ k ih =>
    intro u h
    by_cases h10 : u < 10
    · rw [Lib.decDigits_one h10]; simp
    · rw [Nat.pow_succ] at h
      have := ih (u / 10) (by omega)
      rw [decDigits_big h10]; simp; omega
theorem parseUint10_snoc : ∀ (l : List UInt8) (acc u : Nat) (c : UInt8), Lib.parseUint10 acc l = .ok u → Lib.parseUint10 acc (l ++ [c]) = Lib.parseUint10 u [c]
  | [], acc, u, c, h => by
    simp only [Lib.parseUint10] at h
    injection h with h
    subst h; rfl
  | b :: r, acc, u, c, h => by
    simp only [Lib.parseUint10, List.cons_append] at h ⊢
    split at h
    · rename_i h1
      rw [if_pos h1]
      split at h
      · cases h
      · rename_i h2
        rw [if_neg h2]
        split at h
        · cases h
        · rename_i h3
          rw [if_neg h3]
          have := parseUint10_snoc r _ u c h
          simpa only [Lib.parseUint10] using this
    · cases h
theorem decFrom_snoc : ∀ (l : List UInt8) (acc u : Nat) (c : UInt8), Lib.decFrom acc l = some u → Lib.decFrom acc (l ++ [c]) = Lib.decFrom u [c]
  | [], acc, u, c, h => by
    simp only [Lib.decFrom] at h
    injection h with h
    subst h; rfl
  | b :: r, acc, u, c, h => by
    simp only [Lib.decFrom, List.cons_append] at h ⊢
    cases hb : Lib.digitVal b with
    | none => rw [hb] at h; cases h
    | some d =>
      rw [hb] at h
      have := decFrom_snoc r _ u c h
      simpa only [Lib.decFrom] using this
theorem parse_decDigits (u : Nat) (hu : u ≤ 1000000000000) : Lib.parseUint10 0 (Lib.decDigits u) = .ok u := by
  induction u using Nat.strongRecOn with
  | _ u ih =>
    by_cases h : u < 10
    · rw [Lib.decDigits_one h]
      simp only [Lib.parseUint10, digit_toNat h]
      rw [if_pos (by omega), if_neg (by omega), if_neg (by omega)]
      congr 1; omega
    · rw [decDigits_big h, parseUint10_snoc _ _ _ _ (ih (u / 10) (by omega) (by omega))]
      simp only [Lib.parseUint10, digit_toNat (show u % 10 < 10 by omega)]
      rw [if_pos (by omega), if_neg (by omega), if_neg (by omega)]
      congr 1; omega
theorem decFrom_decDigits (u : Nat) : Lib.decFrom 0 (Lib.decDigits u) = some u := by
  induction u using Nat.strongRecOn with
  | _ u ih =>
    by_cases h : u < 10
    · rw [Lib.decDigits_one h]
      simp only [Lib.decFrom, Lib.digitVal, digit_toNat h]
      rw [if_pos (by omega)]
      simp
    · rw [decDigits_big h, decFrom_snoc _ _ _ _ (ih (u / 10) (by omega))]
      simp only [Lib.decFrom, Lib.digitVal, digit_toNat (show u % 10 < 10 by omega)]
      rw [if_pos (by omega)]
      simp; omega
theorem atoiAll_decDigits (u : Nat) (hu : u ≤ 1000000000000) : Lib.atoiAll (Lib.decDigits u) = .ok (u : Int) := by
  have hp := parse_decDigits u hu
  obtain ⟨h1, h2⟩ := decDigits_digits u
  cases hl : Lib.decDigits u with
  | nil => exact absurd hl h1
  | cons c r =>
    rw [hl] at hp h2
    have hc := h2 c (by simp)
    simp only [Lib.atoiAll]
    rw [if_neg (by omega)]
    unfold Lib.parseMag
    rw [if_neg (by simp), hp]
    dsimp only
    rw [if_neg (by omega), if_neg (by omega), if_neg (by omega)]
/-- What a numeral of this program is: the number's and the bytes' relation. -/
def isNum (l : List UInt8) (u : Nat) : Prop := u ≤ 1000000000000 ∧ Lib.decDigits u = l
theorem isNum_inj {l : List UInt8} {u v : Nat} (h : isNum l u) (h' : isNum l v) : u = v := by
  have e := decFrom_decDigits u
  rw [h.2, ← h'.2, decFrom_decDigits] at e
  exact (Option.some.inj e).symm
open Classical in
/-- The number and the flag that ParseNum returns. -/
noncomputable def pn (l : List UInt8) : Int × Bool := if h : ∃ u, isNum l u then (((Classical.choose h : Nat) : Int), true) else (0, false)
theorem pn_yes {l : List UInt8} {u : Nat} (h : isNum l u) : pn l = ((u : Int), true) := by
  have hx : ∃ u, isNum l u := ⟨u, h⟩
  unfold pn
  rw [dif_pos hx, isNum_inj (Classical.choose_spec hx) h]
theorem pn_no {l : List UInt8} (h : ∀ u, ¬ isNum l u) : pn l = (0, false) := by
  unfold pn
  rw [dif_neg (fun hx => h _ hx.choose_spec)]
theorem spec_l1In_v (a b c : Int) : spec_l1In.f a b c = some (decide (b ≤ a ∧ a ≤ c)) := by
  unfold spec_l1In.f
  by_cases h : a ≥ b
  · rw [if_pos h]; congr 1; simp; omega
  · rw [if_neg h]; congr 1; symm; rw [decide_eq_false_iff_not]; omega
theorem bt_get {s : ByteArray} {i : Nat} (h : i < s.data.toList.length) : bt s (i : Int) = ((s.data.toList[i].toNat : Nat) : Int) := by
  have hs : i < s.size := by rw [Array.length_toList] at h; exact h
  have := bt_at s (i : Int) (by simpa using hs)
  rw [← this]
  simp only [Int.toNat_natCast, Array.getElem_toList]
  rfl
theorem wr64 {x : Int} (h0 : -9223372036854775808 ≤ x) (h1 : x ≤ 9223372036854775807) : wrap64 x = x := by unfold wrap64; omega
theorem spec_ParseNum_l (s : ByteArray) (hs : s.data.toList.length ≤ 13) (d : Nat) : ∀ (k i n : Nat), i ≤ s.data.toList.length → s.data.toList.length - i = d → n < 10 ^ i → d + 200 < k →
    spec_ParseNum.l0 k s (n : Int) (i : Int) = some (match Lib.decFrom n (s.data.toList.drop i) with
      | none => (0, false)
      | some m => if m ≤ 1000000000000 ∧ Lib.decDigits m = s.data.toList then ((m : Int), true) else (0, false)) := by
  have hsz : (s.size : Int) = (s.data.toList.length : Int) := by rw [Array.length_toList]; rfl
  induction d with
  | zero =>
    intro k i n hi hd hn hk
    obtain ⟨k, rfl⟩ : ∃ m, k = m + 1 := ⟨k - 1, by omega⟩
    have hp : (10 : Nat) ^ i ≤ 10 ^ 13 := Nat.pow_le_pow_right (by decide) (by omega)
    simp only [spec_ParseNum.l0]
    rw [if_neg (by omega), List.drop_eq_nil_of_le (by omega)]
    simp only [Lib.decFrom]
    by_cases h : (n : Int) > 1000000000000
    · rw [if_pos h, if_neg (fun g => by have := g.1; omega)]
    · have e2 : Lib.itoa (n : Int) = Lib.decDigits n := by unfold Lib.itoa; rw [if_neg (by omega)]; simp
      rw [if_neg h, spec_NumText_v (by omega) (by omega) (by omega), Option.bind_some, e2, Lib.toList_data, Lib.toList_data]
      by_cases e : Lib.decDigits n = s.data.toList
      · rw [if_pos (by simpa using e), if_pos ⟨by omega, e⟩]
      · rw [if_neg (by simpa using e), if_neg (fun g => e g.2)]
  | succ d ih =>
    intro k i n hi hd hn hk
    obtain ⟨k, rfl⟩ : ∃ m, k = m + 1 := ⟨k - 1, by omega⟩
    have hp : (10 : Nat) ^ i ≤ 1000000000000 := Nat.le_trans (Nat.pow_le_pow_right (by decide) (by omega)) (by decide : (10 : Nat) ^ 12 ≤ 1000000000000)
    have hnb : n < 1000000000000 := Nat.lt_of_lt_of_le hn hp
    have hlt : i < s.data.toList.length := by omega
    have hb := bt_range s (i : Int)
    have hg := bt_get hlt
    rw [List.drop_eq_getElem_cons hlt]
    simp only [spec_ParseNum.l0, Lib.decFrom]
    generalize s.data.toList[i] = c at *
    generalize bt s (i : Int) = y at *
    rw [if_pos (by omega), if_pos (by omega), wr64 (x := y) (by omega) (by omega), spec_l1In_v, Option.bind_some]
    unfold Lib.digitVal
    by_cases h : 48 ≤ c.toNat ∧ c.toNat ≤ 57
    · have h' : 48 ≤ y ∧ y ≤ 57 := by omega
      have b1 : n * 10 + (c.toNat - 48) < 10 ^ (i + 1) := by rw [Nat.pow_succ]; omega
      rw [decide_eq_true h', if_pos rfl, wr64 (x := 10 * (n : Int)) (by omega) (by omega), show (y - 48) % 256 = y - 48 from by omega, wr64 (x := 10 * (n : Int) + (y - 48)) (by omega) (by omega), wr64 (x := (i : Int) + 1) (by omega) (by omega),
        show 10 * (n : Int) + (y - 48) = ((n * 10 + (c.toNat - 48) : Nat) : Int) from by omega, show (i : Int) + 1 = ((i + 1 : Nat) : Int) from rfl, if_pos h]
      exact ih k (i + 1) _ (by omega) (by omega) b1 (by omega)
    · have h' : ¬ (48 ≤ y ∧ y ≤ 57) := by omega
      rw [decide_eq_false h', if_neg (by decide), if_neg h]
theorem spec_ParseNum_v {k : Nat} (hk : 1000 < k) (s : ByteArray) : spec_ParseNum.f k s = some (pn s.data.toList) := by
  have hsz : (s.size : Int) = (s.data.toList.length : Int) := by rw [Array.length_toList]; rfl
  unfold spec_ParseNum.f
  rw [spec_l1In_v, Option.bind_some]
  by_cases hl : 1 ≤ (s.size : Int) ∧ (s.size : Int) ≤ 13
  · have h := spec_ParseNum_l s (by omega) s.data.toList.length k 0 0 (by omega) (by omega) (by decide) (by omega)
    rw [decide_eq_true hl, if_pos rfl]
    rw [show ((0 : Nat) : Int) = 0 from rfl, List.drop_zero] at h
    rw [h]
    congr 1
    cases hd : Lib.decFrom 0 s.data.toList with
    | none =>
      refine (pn_no fun u hu => ?_).symm
      rw [← hu.2, decFrom_decDigits] at hd; cases hd
    | some m =>
      dsimp only
      by_cases hm : m ≤ 1000000000000 ∧ Lib.decDigits m = s.data.toList
      · rw [if_pos hm, pn_yes hm]
      · rw [if_neg hm]
        refine (pn_no fun u hu => ?_).symm
        rw [← hu.2, decFrom_decDigits] at hd
        obtain rfl := Option.some.inj hd
        exact hm hu
  · rw [decide_eq_false hl, if_neg (by decide), pn_no]
    intro u hu
    have := decDigits_len 12 u (by have := hu.1; omega)
    rw [hu.2] at this
    omega
theorem impl_within_v (a b c : Int) : impl_within.f a b c = some (decide (b ≤ a ∧ a ≤ c)) := by
  unfold impl_within.f
  by_cases h : a ≥ b
  · rw [if_pos h]; congr 1; simp; omega
  · rw [if_neg h]; congr 1; symm; rw [decide_eq_false_iff_not]; omega
/-- By how the library's parse ends. -/
theorem pn_ok {l : List UInt8} {v : Int} (h : Lib.atoiAll l = .ok v) : pn l = if 0 ≤ v ∧ v ≤ 1000000000000 ∧ Lib.itoa v = l then (v, true) else (0, false) := by
  by_cases hc : 0 ≤ v ∧ v ≤ 1000000000000 ∧ Lib.itoa v = l
  · obtain ⟨h0, h1, h2⟩ := hc
    obtain ⟨u, rfl⟩ := Int.eq_ofNat_of_zero_le h0
    have e2 : Lib.itoa (u : Int) = Lib.decDigits u := by unfold Lib.itoa; rw [if_neg (by omega)]; simp
    rw [if_pos ⟨h0, h1, h2⟩, pn_yes (u := u) ⟨by omega, by rw [← e2]; exact h2⟩]
  · rw [if_neg hc, pn_no]
    intro u hu
    have e := atoiAll_decDigits u hu.1
    rw [hu.2, h] at e
    injection e with e
    subst e
    refine hc ⟨by omega, by have := hu.1; omega, ?_⟩
    unfold Lib.itoa; rw [if_neg (by omega)]; simpa using hu.2
theorem pn_bad {l : List UInt8} (h : ∀ v, Lib.atoiAll l ≠ .ok v) : pn l = (0, false) := pn_no fun u hu => h u (by rw [← hu.2]; exact atoiAll_decDigits u hu.1)
end Go.Proofs.YtdodnhjglpidlaaDoor.Pure
