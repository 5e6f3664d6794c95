/- Plain lemmas: the number of ones of a number below 2^40, as math/bits reckons it, is the number of its elements; no condition. -/
import Derived.Test.YtfmhhjlhaklljaaLib
set_option linter.unusedVariables false
set_option linter.unusedSimpArgs false
namespace Go.Proofs.Ytfmhhjlhaklljaa.Lib
open Go.RowKit Go.Proofs.YtfmhhjlhaklljaaW.PrintWords Go.Proofs.YtfmhhjlhaklljaaW.PrintMore

theorem and_split (hi lo mh ml : Nat) (hlo : lo < 256) (hml : ml < 256) : (256 * hi + lo) &&& (256 * mh + ml) = 256 * (hi &&& mh) + (lo &&& ml) := by
  have hl : lo &&& ml < 2 ^ 8 := Nat.lt_of_le_of_lt Nat.and_le_left hlo
  apply Nat.eq_of_testBit_eq
  intro i
  rw [show (256 : Nat) = 2 ^ 8 from rfl, Nat.testBit_and, Nat.testBit_two_pow_mul_add _ hlo, Nat.testBit_two_pow_mul_add _ hml, Nat.testBit_two_pow_mul_add _ hl]
  split
  · rw [Nat.testBit_and]
  · rw [Nat.testBit_and]
def n5 (a b c d e : Nat) : Nat := 256 * (256 * (256 * (256 * e + d) + c) + b) + a
/-- A mask of five bytes that are one. -/
theorem and5 {m a b c d e : Nat} (M : Nat) (hm : m < 256) (hM : ∃ r, M = 256 * (256 * (256 * (256 * (256 * r + m) + m) + m) + m) + m) (ha : a < 256) (hb : b < 256) (hc : c < 256) (hd : d < 256) (he : e < 256) :
    n5 a b c d e &&& M = n5 (a &&& m) (b &&& m) (c &&& m) (d &&& m) (e &&& m) := by
  obtain ⟨r, rfl⟩ := hM
  unfold n5
  rw [and_split _ _ _ _ ha hm, and_split _ _ _ _ hb hm, and_split _ _ _ _ hc hm, and_split _ _ _ _ hd hm]
  have h := and_split 0 e r m he hm
  rw [show 256 * 0 + e = e from by omega, Nat.zero_and, show 256 * 0 + (e &&& m) = e &&& m from by omega] at h
  rw [h]
theorem t1 : ∀ h, h < 2 → ∀ x, x < 256 → (128 * h + x / 2) &&& 85 = (x / 2) &&& 85 := by decide +kernel
theorem t2 : ∀ h, h < 4 → ∀ x, x < 256 → (64 * h + x / 4) &&& 51 = (x / 4) &&& 51 := by decide +kernel
def f1 (x : Nat) : Nat := ((x / 2) &&& 85) + (x &&& 85)
def f2 (x : Nat) : Nat := ((x / 4) &&& 51) + (x &&& 51)
def pop8 (x : Nat) : Nat := x % 2 + x / 2 % 2 + x / 4 % 2 + x / 8 % 2 + x / 16 % 2 + x / 32 % 2 + x / 64 % 2 + x / 128 % 2
theorem t3 : ∀ x, x < 256 → f1 x < 256 ∧ f2 (f1 x) ≤ 68 ∧ f2 (f1 x) % 16 ≤ 4 ∧ (f2 (f1 x) + f2 (f1 x) / 16) % 16 = pop8 x ∧ pop8 x ≤ 8 := by decide +kernel
theorem and15 (x : Nat) : x &&& 15 = x % 16 := Nat.and_two_pow_sub_one_eq_mod x 4
theorem stage1 {a b c d e : Nat} (ha : a < 256) (hb : b < 256) (hc : c < 256) (hd : d < 256) (he : e < 256) :
    (n5 a b c d e / 2 &&& 6148914691236517205) + (n5 a b c d e &&& 6148914691236517205) = n5 (f1 a) (f1 b) (f1 c) (f1 d) (f1 e) := by
  have hM : ∃ r, 6148914691236517205 = 256 * (256 * (256 * (256 * (256 * r + 85) + 85) + 85) + 85) + 85 := ⟨5592405, by decide⟩
  have hh : n5 a b c d e / 2 = n5 (128 * (b % 2) + a / 2) (128 * (c % 2) + b / 2) (128 * (d % 2) + c / 2) (128 * (e % 2) + d / 2) (e / 2) := by unfold n5; omega
  rw [hh, and5 6148914691236517205 (by decide) hM (by omega) (by omega) (by omega) (by omega) (by omega), and5 6148914691236517205 (by decide) hM ha hb hc hd he, t1 _ (by omega) _ ha, t1 _ (by omega) _ hb, t1 _ (by omega) _ hc, t1 _ (by omega) _ hd]
  unfold n5 f1
  omega
theorem stage2 {a b c d e : Nat} (ha : a < 256) (hb : b < 256) (hc : c < 256) (hd : d < 256) (he : e < 256) :
    (n5 a b c d e / 4 &&& 3689348814741910323) + (n5 a b c d e &&& 3689348814741910323) = n5 (f2 a) (f2 b) (f2 c) (f2 d) (f2 e) := by
  have hM : ∃ r, 3689348814741910323 = 256 * (256 * (256 * (256 * (256 * r + 51) + 51) + 51) + 51) + 51 := ⟨3355443, by decide⟩
  have hh : n5 a b c d e / 4 = n5 (64 * (b % 4) + a / 4) (64 * (c % 4) + b / 4) (64 * (d % 4) + c / 4) (64 * (e % 4) + d / 4) (e / 4) := by unfold n5; omega
  rw [hh, and5 3689348814741910323 (by decide) hM (by omega) (by omega) (by omega) (by omega) (by omega), and5 3689348814741910323 (by decide) hM ha hb hc hd he, t2 _ (by omega) _ ha, t2 _ (by omega) _ hb, t2 _ (by omega) _ hc, t2 _ (by omega) _ hd]
  unfold n5 f2
  omega
theorem stage3 {a b c d e : Nat} (ha : a ≤ 68) (hb : b ≤ 68) (hc : c ≤ 68) (hd : d ≤ 68) (he : e ≤ 68) (hb' : b % 16 ≤ 4) (hc' : c % 16 ≤ 4) (hd' : d % 16 ≤ 4) (he' : e % 16 ≤ 4) :
    (n5 a b c d e / 16 + n5 a b c d e &&& 1085102592571150095) = n5 ((a + a / 16) % 16) ((b + b / 16) % 16) ((c + c / 16) % 16) ((d + d / 16) % 16) ((e + e / 16) % 16) := by
  have hM : ∃ r, 1085102592571150095 = 256 * (256 * (256 * (256 * (256 * r + 15) + 15) + 15) + 15) + 15 := ⟨986895, by decide⟩
  have hh : n5 a b c d e / 16 + n5 a b c d e = n5 (a + a / 16 + 16 * (b % 16)) (b + b / 16 + 16 * (c % 16)) (c + c / 16 + 16 * (d % 16)) (d + d / 16 + 16 * (e % 16)) (e + e / 16) := by unfold n5; omega
  rw [hh, and5 1085102592571150095 (by decide) hM (by omega) (by omega) (by omega) (by omega) (by omega)]
  simp only [and15]
  unfold n5
  omega
theorem n5_lt {a b c d e : Nat} (ha : a < 256) (hb : b < 256) (hc : c < 256) (hd : d < 256) (he : e < 256) : n5 a b c d e < 1099511627776 := by unfold n5; omega
theorem u64w {n : Nat} (h : n < 18446744073709551616) : IntKind.u64.wrap (n : Int) = (n : Int) := IntWalk.u64_in _ ⟨by omega, by omega⟩
theorem and_u64 {a b : Nat} (ha : a < 18446744073709551616) (hb : b < 18446744073709551616) : Go.bits .and .u64 (a : Int) (b : Int) = ((a &&& b : Nat) : Int) :=
  (bits_nat .u64 64 (by decide) (fun n h0 h1 => IntWalk.u64_in n ⟨h0, by omega⟩) a b ha hb).1
theorem and127' {x : Int} (h0 : 0 ≤ x) (h1 : x < 9223372036854775808) : Go.bits .and .i64 x 127 = x % 128 := bits_mask .i64 63 (by decide) wraps_i64 7 (by decide) x h0 (by omega)
/-- math/bits' reckoning, its words one by one. -/
theorem ones_at (a b c d e : Nat) (ha : a < 256) (hb : b < 256) (hc : c < 256) (hd : d < 256) (he : e < 256) (x1 x2 x3 x4 x5 x6 : Int) (s : Int) (hs : s = (n5 a b c d e : Nat))
    (h1 : x1 = IntKind.u64.wrap ((Go.bits .and .u64 (s / 2) 6148914691236517205) + (Go.bits .and .u64 s 6148914691236517205)))
    (h2 : x2 = IntKind.u64.wrap ((Go.bits .and .u64 (x1 / 4) 3689348814741910323) + (Go.bits .and .u64 x1 3689348814741910323)))
    (h3 : x3 = Go.bits .and .u64 (IntKind.u64.wrap ((x2 / 16) + x2)) 1085102592571150095)
    (h4 : x4 = IntKind.u64.wrap (x3 + (x3 / 256))) (h5 : x5 = IntKind.u64.wrap (x4 + (x4 / 65536))) (h6 : x6 = IntKind.u64.wrap (x5 + (x5 / 4294967296))) :
    Go.bits .and .i64 (wrap64 x6) 127 = ((pop8 a + pop8 b + pop8 c + pop8 d + pop8 e : Nat) : Int) := by
  obtain ⟨pa, qa, ra, sa, ta⟩ := t3 a ha
  obtain ⟨pb, qb, rb, sb, tb⟩ := t3 b hb
  obtain ⟨pc, qc, rc, sc, tc⟩ := t3 c hc
  obtain ⟨pd, qd, rd_, sd, td⟩ := t3 d hd
  obtain ⟨pe, qe, re, se, te⟩ := t3 e he
  have e1 : x1 = ((n5 (f1 a) (f1 b) (f1 c) (f1 d) (f1 e) : Nat) : Int) := by
    have hlt := n5_lt ha hb hc hd he
    have hlt' := n5_lt pa pb pc pd pe
    rw [h1, hs, show ((n5 a b c d e : Nat) : Int) / 2 = ((n5 a b c d e / 2 : Nat) : Int) from rfl, show (6148914691236517205 : Int) = ((6148914691236517205 : Nat) : Int) from rfl, and_u64 (by omega) (by omega), and_u64 (by omega) (by omega), ← Int.natCast_add, stage1 ha hb hc hd he, u64w (by omega)]
  have e2 : x2 = ((n5 (f2 (f1 a)) (f2 (f1 b)) (f2 (f1 c)) (f2 (f1 d)) (f2 (f1 e)) : Nat) : Int) := by
    have hlt := n5_lt pa pb pc pd pe
    have hlt' := n5_lt (a := f2 (f1 a)) (b := f2 (f1 b)) (c := f2 (f1 c)) (d := f2 (f1 d)) (e := f2 (f1 e)) (by omega) (by omega) (by omega) (by omega) (by omega)
    rw [h2, e1, show ((n5 (f1 a) (f1 b) (f1 c) (f1 d) (f1 e) : Nat) : Int) / 4 = ((n5 (f1 a) (f1 b) (f1 c) (f1 d) (f1 e) / 4 : Nat) : Int) from rfl, show (3689348814741910323 : Int) = ((3689348814741910323 : Nat) : Int) from rfl, and_u64 (by omega) (by omega), and_u64 (by omega) (by omega), ← Int.natCast_add, stage2 pa pb pc pd pe, u64w (by omega)]
  have e3 : x3 = ((n5 (pop8 a) (pop8 b) (pop8 c) (pop8 d) (pop8 e) : Nat) : Int) := by
    have hlt := n5_lt (a := f2 (f1 a)) (b := f2 (f1 b)) (c := f2 (f1 c)) (d := f2 (f1 d)) (e := f2 (f1 e)) (by omega) (by omega) (by omega) (by omega) (by omega)
    rw [h3, e2, show ((n5 (f2 (f1 a)) (f2 (f1 b)) (f2 (f1 c)) (f2 (f1 d)) (f2 (f1 e)) : Nat) : Int) / 16 = ((n5 (f2 (f1 a)) (f2 (f1 b)) (f2 (f1 c)) (f2 (f1 d)) (f2 (f1 e)) / 16 : Nat) : Int) from rfl, ← Int.natCast_add, u64w (by omega), show (1085102592571150095 : Int) = ((1085102592571150095 : Nat) : Int) from rfl, and_u64 (by omega) (by omega), stage3 qa qb qc qd qe rb rc rd_ re, sa, sb, sc, sd, se]
  generalize pop8 a = A at *
  generalize pop8 b = B at *
  generalize pop8 c = C at *
  generalize pop8 d = D at *
  generalize pop8 e = E at *
  have e3' : x3 = 256 * (256 * (256 * (256 * (E : Int) + D) + C) + B) + A := by rw [e3]; unfold n5; omega
  clear e3 e2 e1 h1 h2 h3
  have e4 : x4 = x3 + x3 / 256 := by rw [h4, IntWalk.u64_in _ ⟨by omega, by omega⟩]
  have e5 : x5 = x4 + x4 / 65536 := by rw [h5, IntWalk.u64_in _ ⟨by omega, by omega⟩]
  have e6 : x6 = x5 + x5 / 4294967296 := by rw [h6, IntWalk.u64_in _ ⟨by omega, by omega⟩]
  clear h4 h5 h6 pa pb pc pd pe qa qb qc qd qe ra rb rc rd_ re sa sb sc sd se ha hb hc hd he hs
  have d1 : x3 / 256 = 256 * (256 * (256 * (E : Int) + D) + C) + B := by omega
  have d2 : x4 / 65536 = 256 * (256 * (E : Int) + (D + E)) + (C + D) := by rw [e4, d1, e3']; omega
  have d3 : x5 / 4294967296 = (E : Int) := by rw [e5, d2, e4, d1, e3']; omega
  have d4 : x6 = (A : Int) + B + C + D + E + 256 * (B + C + D + E) + 65536 * (C + D + E) + 16777216 * (D + E) + 4294967296 * E := by rw [e6, d3, e5, d2, e4, d1, e3']; omega
  clear e4 e5 e6 d1 d2 d3 e3'
  rw [w64 (by omega) (by omega), and127' (by omega) (by omega)]
  omega

/-! ### the elements, one by one -/
theorem bitAt_iff {s : Int} (h0 : 0 ≤ s) (h1 : s ≤ 1099511627775) (i : Nat) (hi : i ≤ 39) : bitAt s (i : Int) = decide (s / 2 ^ i % 2 = 1) := by
  unfold bitAt shr
  rw [Int.toNat_natCast, show min i IntKind.i64.bits = i from by simp [IntKind.bits]; omega]
  have hp : (0 : Int) < 2 ^ i := Int.pow_pos (by decide)
  have hd : 0 ≤ s / 2 ^ i := Int.ediv_nonneg h0 (by omega)
  have hl : s / 2 ^ i ≤ s := Int.ediv_le_self _ h0
  have h := bits_mask .i64 63 (by decide) wraps_i64 1 (by decide) (s / 2 ^ i) hd (by omega)
  rw [show ((2 : Int) ^ 1 - 1) = 1 from rfl, show ((2 : Int) ^ 1) = 2 from rfl] at h
  rw [h]
  rfl
/-- Whether i is one of s, as a number. -/
def one (s : Int) (i : Nat) : Nat := (s / 2 ^ i % 2).toNat
theorem parts_len {s : Int} (h0 : 0 ≤ s) (h1 : s ≤ 1099511627775) (d : Nat) (hd : d + 1 ≤ 40) : (partsFrom s (d + 1)).length = one s (39 - d) + (partsFrom s d).length := by
  rw [partsFrom, List.length_append, show (39 : Int) - (d : Int) = ((39 - d : Nat) : Int) from by omega]
  have : inSet s ((39 - d : Nat) : Int) = decide (s / 2 ^ (39 - d) % 2 = 1) := by
    unfold inSet setOk
    rw [bitAt_iff h0 h1 _ (by omega), decide_eq_true ⟨h0, h1⟩, decide_eq_true (by omega)]; rfl
  rw [this]
  unfold one
  by_cases h : s / 2 ^ (39 - d) % 2 = 1
  · rw [if_pos (decide_eq_true h), h]; rfl
  · rw [if_neg (by simpa using h), show s / 2 ^ (39 - d) % 2 = 0 from by omega]; rfl
def ones8 (s : Int) (j : Nat) : Nat := one s j + one s (j + 1) + one s (j + 2) + one s (j + 3) + one s (j + 4) + one s (j + 5) + one s (j + 6) + one s (j + 7)
theorem parts_len8 {s : Int} (h0 : 0 ≤ s) (h1 : s ≤ 1099511627775) (d : Nat) (hd : d + 8 ≤ 40) : (partsFrom s (d + 8)).length = ones8 s (40 - (d + 8)) + (partsFrom s d).length := by
  rw [parts_len h0 h1 (d + 7) (by omega), parts_len h0 h1 (d + 6) (by omega), parts_len h0 h1 (d + 5) (by omega), parts_len h0 h1 (d + 4) (by omega), parts_len h0 h1 (d + 3) (by omega), parts_len h0 h1 (d + 2) (by omega), parts_len h0 h1 (d + 1) (by omega), parts_len h0 h1 d (by omega)]
  unfold ones8
  rw [show 39 - (d + 7) = 40 - (d + 8) from by omega, show 39 - (d + 6) = 40 - (d + 8) + 1 from by omega, show 39 - (d + 5) = 40 - (d + 8) + 2 from by omega, show 39 - (d + 4) = 40 - (d + 8) + 3 from by omega, show 39 - (d + 3) = 40 - (d + 8) + 4 from by omega, show 39 - (d + 2) = 40 - (d + 8) + 5 from by omega, show 39 - (d + 1) = 40 - (d + 8) + 6 from by omega, show 39 - d = 40 - (d + 8) + 7 from by omega]
  omega
theorem partsIn_len {s : Int} (h0 : 0 ≤ s) (h1 : s ≤ 1099511627775) : (partsIn s).length = ones8 s 0 + ones8 s 8 + ones8 s 16 + ones8 s 24 + ones8 s 32 := by
  unfold partsIn
  rw [parts_len8 h0 h1 32 (by omega), parts_len8 h0 h1 24 (by omega), parts_len8 h0 h1 16 (by omega), parts_len8 h0 h1 8 (by omega), parts_len8 h0 h1 0 (by omega)]
  simp only [partsFrom, List.length_nil, Nat.reduceAdd, Nat.reduceSub]
  omega
theorem partsFrom_none {s : Int} (h : ¬ (0 ≤ s ∧ s ≤ 1099511627775)) (d : Nat) : partsFrom s d = [] := by
  induction d with
  | zero => rfl
  | succ d ih =>
    rw [partsFrom, ih]
    have : inSet s (39 - (d : Int)) = false := by unfold inSet setOk; rw [decide_eq_false h]; rfl
    rw [this]; rfl
theorem one_nat (s i : Nat) : one (s : Int) i = s / 2 ^ i % 2 := by
  unfold one
  rw [show ((2 : Int) ^ i) = ((2 ^ i : Nat) : Int) from by simp, show (s : Int) / ((2 ^ i : Nat) : Int) % 2 = ((s / 2 ^ i % 2 : Nat) : Int) from rfl, Int.toNat_natCast]
theorem one_byte (s j i : Nat) (hi : i ≤ 7) : one (s : Int) (j + i) = s / 2 ^ j % 256 / 2 ^ i % 2 := by
  rw [one_nat, Nat.pow_add, ← Nat.div_div_eq_div_mul]
  generalize s / 2 ^ j = q
  rcases (by omega : i = 0 ∨ i = 1 ∨ i = 2 ∨ i = 3 ∨ i = 4 ∨ i = 5 ∨ i = 6 ∨ i = 7) with rfl | rfl | rfl | rfl | rfl | rfl | rfl | rfl <;> omega
theorem pop8_one (s j : Nat) : ones8 (s : Int) j = pop8 (s / 2 ^ j % 256) := by
  have h0 := one_byte s j 0 (by omega)
  rw [Nat.add_zero] at h0
  unfold ones8 pop8
  rw [h0, one_byte s j 1 (by omega), one_byte s j 2 (by omega), one_byte s j 3 (by omega), one_byte s j 4 (by omega), one_byte s j 5 (by omega), one_byte s j 6 (by omega), one_byte s j 7 (by omega)]
  simp
theorem n5_of (s : Nat) (h : s < 1099511627776) : s = n5 (s / 2 ^ 0 % 256) (s / 2 ^ 8 % 256) (s / 2 ^ 16 % 256) (s / 2 ^ 24 % 256) (s / 2 ^ 32 % 256) := by unfold n5; omega
end Go.Proofs.Ytfmhhjlhaklljaa.Lib
