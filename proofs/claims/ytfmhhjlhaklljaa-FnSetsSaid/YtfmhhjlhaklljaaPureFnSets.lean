/- For all draws: an added element is in the set, and a removed one is not; the size of a set is the number of its elements; no condition. -/
import Derived.Test.YtfmhhjlhaklljaaPFnSetsx4
import Derived.Test.YtfmhhjlhaklljaaEqFnSets
set_option linter.unusedVariables false
set_option linter.unusedSimpArgs false
namespace Go.Proofs.Ytfmhhjlhaklljaa.Pure
open Go.RowKit Go.Proofs.Ytfmhhjlhaklljaa.PFnSets Go.Proofs.YtfmhhjlhaklljaaW.PrintWords Go.Proofs.YtfmhhjlhaklljaaW.PrintLast Go.Proofs.YtfmhhjlhaklljaaW.PrintMore Go.Proofs.Ytfmhhjlhaklljaa.Lib

def M40 : Nat := 1099511627776
theorem shlOne {i : Nat} (hi : i ≤ 39) : shl .i64 1 (i : Int) = ((2 ^ i : Nat) : Int) := by
  have : ∀ j : Nat, j < 40 → shl .i64 1 (j : Int) = ((2 ^ j : Nat) : Int) := by decide +kernel
  exact this i (by omega)
theorem pow_lt40 {i : Nat} (hi : i ≤ 39) : 2 ^ i < M40 := by
  have h : 2 ^ i ≤ 2 ^ 39 := Nat.pow_le_pow_right (by omega) hi
  have : (2 : Nat) ^ 39 = 549755813888 := by decide
  unfold M40; omega
theorem or_nat {a b : Nat} (ha : a < M40) (hb : b < M40) : Go.bits .or .i64 (a : Int) (b : Int) = ((a ||| b : Nat) : Int) ∧ a ||| b < M40 := by
  unfold M40 at *
  exact ⟨(bits_nat .i64 63 (by decide) wraps_i64 a b (by omega) (by omega)).2, Nat.or_lt_two_pow (n := 40) (by omega) (by omega)⟩
theorem bvn (a : Nat) (h : a < 18446744073709551616) : (BitVec.ofInt 64 (a : Int)).toNat = a := by
  rw [BitVec.ofInt_natCast, BitVec.toNat_ofNat]; omega
def sub (a b : Nat) : Nat := a &&& (2 ^ 64 - (b + 1))
theorem sub_nat {a b : Nat} (ha : a < M40) (hb : b < M40) : Go.bits .andNot .i64 (a : Int) (b : Int) = ((sub a b : Nat) : Int) ∧ sub a b < M40 := by
  unfold M40 at *
  have hle : sub a b ≤ a := Nat.and_le_left
  refine ⟨?_, by omega⟩
  show IntKind.i64.wrap ((BitVec.ofInt 64 (a : Int) &&& ~~~BitVec.ofInt 64 (b : Int)).toNat : Int) = _
  rw [BitVec.toNat_and, BitVec.toNat_not, bvn a (by omega), bvn b (by omega), show 2 ^ 64 - 1 - b = 2 ^ 64 - (b + 1) from by omega]
  exact wraps_i64 _ (by omega) (by unfold sub at hle; omega)
theorem sub_bit {a b : Nat} (ha : a < M40) (hb : b < M40) (j : Nat) : (sub a b).testBit j = (a.testBit j && !b.testBit j) := by
  unfold sub M40 at *
  rw [Nat.testBit_and, Nat.testBit_two_pow_sub_succ (by omega)]
  by_cases hj : j < 64
  · rw [decide_eq_true hj, Bool.true_and]
  · have : a.testBit j = false := Nat.testBit_lt_two_pow (Nat.lt_of_lt_of_le (by omega : a < 2 ^ 40) (Nat.pow_le_pow_right (by omega) (by omega)))
    rw [this]; simp
theorem inSet_bit {a : Nat} (ha : a < M40) {j : Nat} (hj : j ≤ 39) : inSet (a : Int) (j : Int) = a.testBit j := by
  unfold M40 at ha
  unfold inSet setOk
  rw [bitAt_iff (by omega) (by omega) j hj, decide_eq_true ⟨by omega, by omega⟩, decide_eq_true ⟨by omega, by omega⟩, Nat.testBit_eq_decide_div_mod_eq]
  simp only [Bool.true_and]
  congr 1
  have e : (a : Int) / 2 ^ j % 2 = ((a / 2 ^ j % 2 : Nat) : Int) := by push_cast; rfl
  rw [e]
  exact propext ⟨fun h => by omega, fun h => by omega⟩
theorem setOk_nat {a : Nat} (ha : a < M40) : decide (0 ≤ (a : Int) ∧ (a : Int) ≤ 1099511627775) = true := by
  unfold M40 at ha; exact decide_eq_true ⟨by omega, by omega⟩
theorem withPart_v {a i : Nat} (ha : a < M40) (hi : i ≤ 39) : impl_WithPart.f (a : Int) (i : Int) = some ((a ||| 2 ^ i : Nat) : Int) := by
  unfold impl_WithPart.f
  rw [impl_SetOk_v, Option.bind_some, setOk_nat ha, if_pos rfl, impl_isPlace_v, Option.bind_some, decide_eq_true ⟨by omega, by omega⟩, if_pos rfl, if_pos (by omega), shlOne hi, (or_nat ha (pow_lt40 hi)).1]
theorem withoutPart_v {a i : Nat} (ha : a < M40) (hi : i ≤ 39) : impl_WithoutPart.f (a : Int) (i : Int) = some ((sub a (2 ^ i) : Nat) : Int) := by
  unfold impl_WithoutPart.f
  rw [impl_SetOk_v, Option.bind_some, setOk_nat ha, if_pos rfl, impl_isPlace_v, Option.bind_some, decide_eq_true ⟨by omega, by omega⟩, if_pos rfl, if_pos (by omega), shlOne hi, (sub_nat ha (pow_lt40 hi)).1]
theorem union_v {a b : Nat} (ha : a < M40) (hb : b < M40) : impl_Union.f (a : Int) (b : Int) = some ((a ||| b : Nat) : Int) := by
  unfold impl_Union.f
  rw [impl_SetOk_v, Option.bind_some, setOk_nat ha, if_pos rfl, impl_SetOk_v, Option.bind_some, setOk_nat hb, if_pos rfl, (or_nat ha hb).1]
theorem without_v {a b : Nat} (ha : a < M40) (hb : b < M40) : impl_Without.f (a : Int) (b : Int) = some ((sub a b : Nat) : Int) := by
  unfold impl_Without.f
  rw [impl_SetOk_v, Option.bind_some, setOk_nat ha, if_pos rfl, impl_SetOk_v, Option.bind_some, setOk_nat hb, if_pos rfl, (sub_nat ha hb).1]
theorem parts_mem {s : Int} (d : Nat) : ∀ x ∈ partsFrom s d, inSet s x = true := by
  induction d with
  | zero => intro x hx; simp [partsFrom] at hx
  | succ d ih =>
    intro x hx
    simp only [partsFrom, List.mem_append] at hx
    rcases hx with hx | hx
    · by_cases h : inSet s (39 - (d : Int)) = true
      · rw [if_pos h, List.mem_singleton] at hx; rw [hx]; exact h
      · rw [if_neg h] at hx; simp at hx
    · exact ih x hx
theorem part_bit {a : Nat} (ha : a < M40) {x : Int} (hx : x ∈ partsIn (a : Int)) : ∃ n : Nat, x = (n : Int) ∧ n ≤ 39 ∧ a.testBit n = true := by
  have h1 := partsFrom_nn (a : Int) 40 (by omega) x hx
  have h2 := parts_mem 40 x hx
  obtain ⟨n, rfl⟩ := Int.eq_ofNat_of_zero_le h1.1
  refine ⟨n, rfl, by omega, ?_⟩
  rw [← inSet_bit ha (by omega)]; exact h2
theorem pow_bit (i j : Nat) : (2 ^ i).testBit j = decide (i = j) := by rw [Nat.testBit_two_pow]
theorem first_two {a : Nat} (ha : a < M40) : ∃ (r p q : Nat), firstOf (a : Int) 2 = (r : Int) ∧ r < M40 ∧ ∀ j, r.testBit j = true → a.testBit j = true ∧ (j = p ∨ j = q) := by
  have hz : (0 : Nat) < M40 := by decide
  have e0 : ((0 : Nat) : Int) = 0 := rfl
  unfold firstOf
  have hm := fun x (hx : x ∈ partsIn (a : Int)) => part_bit ha hx
  cases hp : partsIn (a : Int) with
  | nil =>
    refine ⟨0, 0, 0, ?_, hz, fun j hj => by simp at hj⟩
    simp [firstFold]
  | cons x l =>
    obtain ⟨n, rfl, hn, bn⟩ := hm x (by rw [hp]; exact List.mem_cons_self)
    have o1 := or_nat hz (pow_lt40 hn)
    rw [e0, Nat.zero_or] at o1
    cases l with
    | nil =>
      refine ⟨2 ^ n, n, n, ?_, pow_lt40 hn, fun j hj => ?_⟩
      · simp only [firstFold]
        rw [if_neg (by omega), shlOne hn, o1.1]
      · rw [pow_bit, decide_eq_true_iff] at hj
        subst hj; exact ⟨bn, Or.inl rfl⟩
    | cons y l =>
      obtain ⟨m, rfl, hm', bm⟩ := hm y (by rw [hp]; exact List.mem_cons_of_mem _ List.mem_cons_self)
      have o2 := or_nat (pow_lt40 hn) (pow_lt40 hm')
      refine ⟨2 ^ n ||| 2 ^ m, n, m, ?_, o2.2, fun j hj => ?_⟩
      · simp only [firstFold]
        rw [if_neg (by omega), if_neg (by omega), shlOne hn, o1.1, shlOne hm', o2.1]
        cases l with
        | nil => rfl
        | cons z l => simp only [firstFold]; rw [if_pos (by omega)]
      · rw [Nat.testBit_or, pow_bit, pow_bit, Bool.or_eq_true, decide_eq_true_iff, decide_eq_true_iff] at hj
        rcases hj with rfl | rfl
        · exact ⟨bn, Or.inl rfl⟩
        · exact ⟨bm, Or.inr rfl⟩
theorem count_two {r p q : Nat} (hr : r < M40) (h : ∀ j, r.testBit j = true → j = p ∨ j = q) (d : Nat) : d ≤ 40 → (partsFrom (r : Int) d).length ≤ (if 39 < d + p then 1 else 0) + (if 39 < d + q then 1 else 0) := by
  induction d with
  | zero => intro _; simp [partsFrom]
  | succ d ih =>
    intro hd
    have hi := ih (by omega)
    rw [partsFrom, List.length_append, show (39 : Int) - (d : Int) = ((39 - d : Nat) : Int) from by omega, inSet_bit hr (by omega)]
    by_cases hb : r.testBit (39 - d) = true
    · rw [if_pos hb]
      have hpq := h _ hb
      simp only [List.length_singleton]
      split at hi <;> split at hi <;> split <;> split <;> omega
    · rw [if_neg hb]
      simp only [List.length_nil]
      split at hi <;> split at hi <;> split <;> split <;> omega
theorem FnSets_out {k : Nat} (s i : Int) (h : ¬ ((0 ≤ s ∧ s ≤ 1099511627775) ∧ 0 ≤ i ∧ i ≤ 39)) : laws_FnSets.j1 (k + 1) s i true = some true := by
  simp only [laws_FnSets.j1, if_true]
  unfold impl_WithPart.f
  rw [impl_SetOk_v, Option.bind_some]
  by_cases h0 : 0 ≤ s ∧ s ≤ 1099511627775
  · have h1 : ¬ (0 ≤ i ∧ i ≤ 39) := fun g => h ⟨h0, g⟩
    rw [decide_eq_true h0, if_pos rfl, impl_isPlace_v, Option.bind_some, decide_eq_false h1, if_neg (by decide)]; simp
  · rw [decide_eq_false h0, if_neg (by decide)]; simp
theorem FnSets_in {k a i : Nat} (ha : a < M40) (hi : i ≤ 39) (hk : 100 < k) : laws_FnSets.j1 (k + 1) (a : Int) (i : Int) false = some true := by
  have hp := pow_lt40 hi
  have hw := or_nat ha hp
  have hv := sub_nat ha hp
  have hz : (0 : Nat) < M40 := by decide
  have e0 := withPart_v hz hi
  rw [Nat.zero_or, show ((0 : Nat) : Int) = 0 from rfl] at e0
  have hu := or_nat hv.2 hp
  have eu : sub a (2 ^ i) ||| 2 ^ i = a ||| 2 ^ i := by
    refine Nat.eq_of_testBit_eq (fun j => ?_)
    rw [Nat.testBit_or, Nat.testBit_or, sub_bit ha hp, pow_bit]
    by_cases h : i = j
    · rw [decide_eq_true h]; simp
    · rw [decide_eq_false h]; simp
  obtain ⟨r, p, q, er, hr, hb⟩ := first_two ha
  have hc := count_two hr (fun j hj => (hb j hj).2) 40 (by omega)
  have ez : sub r a = 0 := by
    refine Nat.eq_of_testBit_eq (fun j => ?_)
    rw [sub_bit hr ha, Nat.zero_testBit]
    by_cases h : r.testBit j = true
    · rw [(hb j h).1]; simp
    · rw [Bool.eq_false_iff.2 h]; rfl
  have b1 : inSet ((a ||| 2 ^ i : Nat) : Int) (i : Int) = true := by rw [inSet_bit hw.2 hi, Nat.testBit_or, pow_bit, decide_eq_true rfl]; simp
  have b2 : inSet ((sub a (2 ^ i) : Nat) : Int) (i : Int) = false := by rw [inSet_bit hv.2 hi, sub_bit ha hp, pow_bit, decide_eq_true rfl]; simp
  simp only [laws_FnSets.j1, Bool.false_eq_true, if_false]
  rw [withPart_v ha hi, Option.bind_some, impl_InSet_v, Option.bind_some, b1, if_pos rfl, withoutPart_v ha hi, Option.bind_some, impl_InSet_v, Option.bind_some, b2, if_neg (by decide), e0, Option.bind_some, without_v ha hp, Option.bind_some, Option.bind_some, union_v hv.2 hp, Option.bind_some, Option.bind_some, eu, if_pos rfl,
    impl_FirstOf_v _ (by omega) (by omega) (by omega), Option.bind_some, er, impl_CountSet_v, Option.bind_some]
  have hlen : ((partsIn (r : Int)).length : Int) ≤ 2 := by
    unfold partsIn
    split at hc <;> split at hc <;> omega
  rw [if_pos hlen, Option.bind_some, without_v hr ha, Option.bind_some, ez]; rfl
theorem FnSets : laws_FnSets.Pure := by
  intro l hm hr hw
  refine exists_ge 1050000 _ (fun k hk => ?_)
  unfold laws_FnSets.f
  rw [laws_big_v, Option.bind_some]
  by_cases hbig : (l.length : Int) > 1048576
  · rw [if_pos (decide_eq_true hbig)]
  · rw [if_neg (by simpa using hbig)]
    obtain ⟨s, i, e1⟩ := spec_DrawInSet_x (k := k) (b := l) (by omega) (by omega)
    obtain ⟨a, b, e2⟩ := spec_DrawUnion_x (k := k) (b := l) (by omega) (by omega)
    obtain ⟨f, n, e3, n0, n1⟩ := spec_DrawFirstOf_x (k := k) (b := l) (by omega) (by omega)
    obtain ⟨c, e4⟩ := spec_DrawFullSet_x (k := k) (b := l) (by omega) (by omega)
    have w1 : spec_WithPart.f s i = impl_WithPart.f s i := by
      unfold spec_WithPart.f impl_WithPart.f
      simp only [spec_l1In_v, impl_isPlace_v, spec_SetOk_v, impl_SetOk_v, Option.bind_some]
    have w2 : spec_WithoutPart.f s i = impl_WithoutPart.f s i := by
      unfold spec_WithoutPart.f impl_WithoutPart.f
      simp only [spec_l1In_v, impl_isPlace_v, spec_SetOk_v, impl_SetOk_v, Option.bind_some]
    have w3 : spec_Union.f a b = impl_Union.f a b := by
      unfold spec_Union.f impl_Union.f
      simp only [spec_SetOk_v, impl_SetOk_v, Option.bind_some]
    have w4 : spec_Without.f a b = impl_Without.f a b := by
      unfold spec_Without.f impl_Without.f
      simp only [spec_SetOk_v, impl_SetOk_v, Option.bind_some]
    obtain ⟨x1, v1⟩ : ∃ x, impl_WithPart.f s i = some x := by
      unfold impl_WithPart.f
      simp only [impl_isPlace_v, impl_SetOk_v, Option.bind_some]
      by_cases h : 0 ≤ s ∧ s ≤ 1099511627775
      · by_cases h1 : 0 ≤ i ∧ i ≤ 39 <;> simp [h, h1]
      · simp [h]
    obtain ⟨x2, v2⟩ : ∃ x, impl_WithoutPart.f s i = some x := by
      unfold impl_WithoutPart.f
      simp only [impl_isPlace_v, impl_SetOk_v, Option.bind_some]
      by_cases h : 0 ≤ s ∧ s ≤ 1099511627775
      · by_cases h1 : 0 ≤ i ∧ i ≤ 39 <;> simp [h, h1]
      · simp [h]
    obtain ⟨x3, v3⟩ : ∃ x, impl_Union.f a b = some x := by
      unfold impl_Union.f
      simp only [impl_SetOk_v, Option.bind_some]
      by_cases h : 0 ≤ a ∧ a ≤ 1099511627775
      · by_cases h1 : 0 ≤ b ∧ b ≤ 1099511627775 <;> simp [h, h1]
      · simp [h]
    obtain ⟨x4, v4⟩ : ∃ x, impl_Without.f a b = some x := by
      unfold impl_Without.f
      simp only [impl_SetOk_v, Option.bind_some]
      by_cases h : 0 ≤ a ∧ a ≤ 1099511627775
      · by_cases h1 : 0 ≤ b ∧ b ≤ 1099511627775 <;> simp [h, h1]
      · simp [h]
    have pl := partsFrom_length s 40
    have pl' : (partsIn s).length ≤ 40 := pl
    rw [e1, Option.bind_some, e2, Option.bind_some, e3, Option.bind_some, e4, Option.bind_some, impl_PartsIn_v _ (by omega), Option.bind_some, impl_InSet_v, Option.bind_some, spec_InSet_v, Option.bind_some, bne_self_eq_false, if_neg (by decide)]
    dsimp only
    rw [w1, v1, Option.bind_some, Option.bind_some, if_pos rfl, w2, v2, Option.bind_some, Option.bind_some, if_pos rfl, w3, v3, Option.bind_some, Option.bind_some, if_pos rfl, w4, v4, Option.bind_some, Option.bind_some, if_pos rfl,
      impl_FirstOf_v f (by omega) (by omega) (by omega), Option.bind_some, spec_FirstOf_v f (by omega) (by omega) (by omega), Option.bind_some, if_pos rfl, impl_FullSet_v, Option.bind_some, spec_FullSet_v, Option.bind_some, if_pos rfl,
      spec_PartsIn_v _ (by omega), Option.bind_some, laws_sameInts_v (by omega) (by omega), Option.bind_some, if_pos (decide_eq_true rfl), impl_CountSet_v, Option.bind_some, if_pos rfl, impl_SetOk_v, Option.bind_some, spec_SetOk_v, Option.bind_some, bne_self_eq_false]
    obtain ⟨k, rfl⟩ : ∃ m, k = m + 2 := ⟨k - 2, by omega⟩
    simp only [laws_FnSets.j0]
    rw [if_neg (by decide), impl_SetOk_v, Option.bind_some]
    by_cases hs : 0 ≤ s ∧ s ≤ 1099511627775
    · rw [decide_eq_true hs, if_pos rfl]
      by_cases hi0 : i < 0
      · rw [if_pos hi0]; exact FnSets_out s i (fun g => by omega)
      · rw [if_neg hi0]
        by_cases hi1 : i ≥ 40
        · rw [decide_eq_true hi1]; exact FnSets_out s i (fun g => by omega)
        · rw [decide_eq_false hi1]
          obtain ⟨S, rfl⟩ := Int.eq_ofNat_of_zero_le hs.1
          obtain ⟨I, rfl⟩ := Int.eq_ofNat_of_zero_le (by omega : 0 ≤ i)
          exact FnSets_in (by unfold M40; omega) (by omega) (by omega)
    · rw [decide_eq_false hs, if_neg (by decide)]; exact FnSets_out s i (fun g => hs g.1)

end Go.Proofs.Ytfmhhjlhaklljaa.Pure
