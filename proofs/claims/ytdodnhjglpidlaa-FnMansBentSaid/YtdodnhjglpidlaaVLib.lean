-- by a program of this session (prune.py): the declarations of Lib that this claim uses
import Derived.Test.YtdodnhjglpidlaaVMore
import Derived.Laws.BitsLemmas
import Derived.Lib.Bytes
import Derived.Test.YtdodnhjglpidlaaWSized
set_option linter.unusedVariables false
set_option linter.unusedSimpArgs false
namespace Go.Proofs.Ytdodnhjglpidlaa.Lib
open Go.RowKit Go.Proofs.YtdodnhjglpidlaaW.PrintWords
theorem w64 {x : Int} (h0 : -9223372036854775808 ≤ x) (h1 : x ≤ 9223372036854775807) : wrap64 x = x := by
  unfold wrap64; omega
theorem tmod_nn {x m : Int} (h : 0 ≤ x) : Int.tmod x m = x % m := Int.tmod_eq_emod_of_nonneg h
theorem tdiv_nn {x m : Int} (h : 0 ≤ x) : Int.tdiv x m = x / m := Int.tdiv_eq_ediv_of_nonneg h
theorem wnat {n : Nat} (h : n < 9223372036854775807) : wrap64 ((n : Int) + 1) = ((n + 1 : Nat) : Int) := by
  rw [w64 (by omega) (by omega)]; rfl
theorem rd_nat (l : List Int) (i : Nat) : rd l (i : Int) = l.getD i 0 := rfl
theorem rd_at {l : List Int} {i : Nat} (h : i < l.length) : rd l (i : Int) = l[i] := by rw [rd_nat, List.getD_eq_getElem?_getD, List.getElem?_eq_getElem h]; rfl
theorem drop_eq_iff {a b : List Int} {i : Nat} (ha : i < a.length) (hb : i < b.length) : (a.drop i = b.drop i) ↔ (a[i] = b[i] ∧ a.drop (i + 1) = b.drop (i + 1)) := by
  rw [List.drop_eq_getElem_cons ha, List.drop_eq_getElem_cons hb, List.cons.injEq]
theorem exists_ge (n : Nat) (P : Nat → Prop) (h : ∀ k, n ≤ k → P k) : ∃ k, P k := ⟨n, h n (Nat.le_refl n)⟩
def Byt (l : List Int) : Prop := ∀ x ∈ l, 0 ≤ x ∧ x ≤ 255
def sx : List Int → Int
  | [] => 0
  | c :: l => c + sx l
def sy : List Int → Int
  | [] => 0
  | c :: l => ((l.length : Int) + 1) * c + sy l
theorem sx_append (a b : List Int) : sx (a ++ b) = sx a + sx b := by
  induction a with
  | nil => simp [sx]
  | cons c a ih => simp only [List.cons_append, sx, ih]; omega
theorem sy_append (a b : List Int) : sy (a ++ b) = sy a + b.length * sx a + sy b := by
  induction a with
  | nil => simp [sx, sy]
  | cons c a ih =>
    simp only [List.cons_append, sx, sy, ih, List.length_append, Int.natCast_add]
    simp only [Int.add_mul, Int.mul_add, Int.one_mul, Int.mul_one]
    generalize (a.length : Int) * c = p
    generalize (b.length : Int) * c = q
    generalize (b.length : Int) * sx a = r
    omega
theorem sx_snoc (a : List Int) (c : Int) : sx (a ++ [c]) = sx a + c := by rw [sx_append]; simp [sx]
theorem sy_snoc (a : List Int) (c : Int) : sy (a ++ [c]) = sy a + sx a + c := by rw [sy_append]; simp [sx, sy]
def weakOf (l : List Int) : Int := sx l % 251 + 251 * (sy l % 251)
theorem weakOf_range (l : List Int) : 0 ≤ weakOf l ∧ weakOf l ≤ 63000 := by unfold weakOf; omega
def sumS (l : List Int) : Int := l.foldl (fun s c => s * 256 + c) 1
theorem sumS_snoc (l : List Int) (c : Int) : sumS (l ++ [c]) = sumS l * 256 + c := by simp [sumS]
def dg : Nat → Int → List Int
  | 0, _ => []
  | n + 1, s => dg n (s / 256) ++ [s % 256]
theorem dg_length (n : Nat) (s : Int) : (dg n s).length = n := by
  induction n generalizing s with
  | zero => rfl
  | succ n ih => simp [dg, ih]
theorem dg_byt (n : Nat) (s : Int) : Byt (dg n s) := by
  induction n generalizing s with
  | zero => intro x hx; simp [dg] at hx
  | succ n ih =>
    intro x hx
    simp only [dg, List.mem_append, List.mem_singleton] at hx
    rcases hx with hx | rfl
    · exact ih _ x hx
    · omega
theorem snoc_ind {α : Type} {P : List α → Prop} (h0 : P []) (h1 : ∀ l c, P l → P (l ++ [c])) (l : List α) : P l := by
  have : ∀ n (l : List α), l.length = n → P l := by
    intro n
    induction n with
    | zero => intro l hl; rw [List.eq_nil_of_length_eq_zero hl]; exact h0
    | succ n ih =>
      intro l hl
      have hne : l ≠ [] := by intro e; simp [e] at hl
      rw [← List.dropLast_concat_getLast hne]
      exact h1 _ _ (ih _ (by simp; omega))
  exact this _ l rfl
theorem byt_snoc {l : List Int} {c : Int} : Byt (l ++ [c]) ↔ Byt l ∧ 0 ≤ c ∧ c ≤ 255 := by
  constructor
  · intro h; exact ⟨fun x hx => h x (by simp [hx]), h c (by simp)⟩
  · rintro ⟨h1, h2⟩ x hx
    rcases List.mem_append.1 hx with hx | hx
    · exact h1 x hx
    · rw [List.mem_singleton.1 hx]; exact h2
theorem sumS_bd (l : List Int) (h : Byt l) : 256 ^ l.length ≤ sumS l ∧ sumS l < 2 * 256 ^ l.length := by
  induction l using snoc_ind with
  | h0 => simp [sumS]
  | h1 l c ih =>
    obtain ⟨h1, h2⟩ := byt_snoc.1 h
    have := ih h1
    rw [sumS_snoc, List.length_append, List.length_singleton, Int.pow_succ]
    omega
theorem sumS_dg (n : Nat) (s : Int) (h0 : 256 ^ n ≤ s) (h1 : s < 2 * 256 ^ n) : sumS (dg n s) = s := by
  induction n generalizing s with
  | zero => simp [dg, sumS] at *; omega
  | succ n ih =>
    rw [Int.pow_succ] at h0 h1
    rw [dg, sumS_snoc, ih (s / 256) (by omega) (by omega)]
    omega
theorem pow256_pos (n : Nat) : (0 : Int) < 256 ^ n := Int.pow_pos (by decide)
theorem pow256_lt {m n : Nat} (h : m < n) : 2 * (256 : Int) ^ m ≤ 256 ^ n := by
  obtain ⟨d, rfl⟩ : ∃ d, n = m + 1 + d := ⟨n - (m + 1), by omega⟩
  induction d with
  | zero => rw [Nat.add_zero, Int.pow_succ]; have := pow256_pos m; omega
  | succ d ih => rw [← Nat.add_assoc, Int.pow_succ]; have := ih (by omega); have := pow256_pos m; omega
def sizeOk (s n : Int) : Bool := decide (2 ≤ s ∧ s ≤ 6 ∧ 0 ≤ n ∧ n ≤ s * 40)
def blocks (s n : Int) : Int := if sizeOk s n = true then (n + s - 1) / s else 0
def spanOf (s n i : Int) : Int × Int := if 0 ≤ i ∧ i ≤ blocks s n - 1 then (i * s, mn s (n - i * s)) else (0, 0)
theorem sizeOk_iff {s n : Int} : sizeOk s n = true ↔ (2 ≤ s ∧ s ≤ 6 ∧ 0 ≤ n ∧ n ≤ s * 40) := by unfold sizeOk; exact decide_eq_true_iff
theorem size_cases {s : Int} (h0 : 2 ≤ s) (h1 : s ≤ 6) : s = 2 ∨ s = 3 ∨ s = 4 ∨ s = 5 ∨ s = 6 := by omega
theorem blocks_le (s n : Int) : 0 ≤ blocks s n ∧ blocks s n ≤ 40 := by
  unfold blocks
  by_cases h : sizeOk s n = true
  · rw [if_pos h]
    obtain ⟨h0, h1, h2, h3⟩ := sizeOk_iff.1 h
    rcases size_cases h0 h1 with rfl | rfl | rfl | rfl | rfl <;> omega
  · rw [if_neg h]; omega
theorem span_in {s n i : Int} (h0 : 0 ≤ i) (h1 : i ≤ blocks s n - 1) : 2 ≤ s ∧ s ≤ 6 ∧ n ≤ 240 ∧ 0 ≤ i * s ∧ i * s < n ∧ i ≤ 39 ∧ sizeOk s n = true := by
  have hb := blocks_le s n
  unfold blocks at h1
  by_cases h : sizeOk s n = true
  · rw [if_pos h] at h1
    obtain ⟨g0, g1, g2, g3⟩ := sizeOk_iff.1 h
    rcases size_cases g0 g1 with rfl | rfl | rfl | rfl | rfl <;> refine ⟨by omega, by omega, by omega, by omega, by omega, by omega, h⟩
  · rw [if_neg h] at h1; omega
theorem set_step {α : Type} {x y : List α} {i : Nat} {v : α} (hx : i < x.length) (hj : ∀ j, j < i → x[j]? = y[j]?) (hv : y[i]? = some v) : ∀ j, j < i + 1 → (x.set i v)[j]? = y[j]? := by
  intro j h
  rw [List.getElem?_set]
  by_cases e : i = j
  · subst e; rw [if_pos rfl, if_pos hx, hv]
  · rw [if_neg e]; exact hj j (by omega)
theorem ext_all {α : Type} {x y : List α} {n : Nat} (hx : x.length = n) (hy : y.length = n) (hj : ∀ j, j < n → x[j]? = y[j]?) : x = y := by
  apply List.ext_getElem?
  intro j
  by_cases h : j < n
  · exact hj j h
  · rw [List.getElem?_eq_none (by omega), List.getElem?_eq_none (by omega)]
theorem wraps_i64 (n : Int) (h₀ : 0 ≤ n) (h₁ : n < 2 ^ 63) : IntKind.i64.wrap n = n := by rw [IntKind.wrap_i64]; omega
theorem and127 {x : Int} (h0 : 0 ≤ x) (h1 : x ≤ 255) : Go.bits .and .i64 x 127 = x % 128 := bits_mask .i64 63 (by decide) wraps_i64 7 (by decide) x h0 (by omega)
theorem and255 {x : Int} (h0 : 0 ≤ x) (h1 : x ≤ 9223372036854775807) : Go.bits .and .i64 x 255 = x % 256 := bits_mask .i64 63 (by decide) wraps_i64 8 (by decide) x h0 (by omega)
theorem or_join {x y : Int} (i : Nat) (hx₀ : 0 ≤ x) (hx : x % 2 ^ i = 0) (hx₁ : x < 2 ^ 63) (hy₀ : 0 ≤ y) (hy : y < 2 ^ i) (hy₁ : y < 2 ^ 63) : Go.bits .or .i64 y x = y + x := by
  have h := bits_join .i64 63 (by decide) wraps_i64 i x y hx₀ hx hx₁ hy₀ hy hy₁
  obtain ⟨a, rfl⟩ := Int.eq_ofNat_of_zero_le hx₀
  obtain ⟨b, rfl⟩ := Int.eq_ofNat_of_zero_le hy₀
  have ha : a < 2 ^ 63 := by exact_mod_cast hx₁
  have hb : b < 2 ^ 63 := by exact_mod_cast hy₁
  rw [(bits_nat .i64 63 (by decide) wraps_i64 a b ha hb).2] at h
  rw [(bits_nat .i64 63 (by decide) wraps_i64 b a hb ha).2, Nat.or_comm, h, Int.add_comm]
theorem shl7 {y : Int} {j : Nat} (hj : j ≤ 7) (h0 : 0 ≤ y) (h1 : y < 128) : shl .i64 y (7 * (j : Int)) = y * 128 ^ j := by
  have : j = 0 ∨ j = 1 ∨ j = 2 ∨ j = 3 ∨ j = 4 ∨ j = 5 ∨ j = 6 ∨ j = 7 := by omega
  rcases this with rfl | rfl | rfl | rfl | rfl | rfl | rfl | rfl <;> (simp [shl, IntKind.bits]; rw [wraps_i64 _ (by omega) (by omega)])
theorem orVar {n y : Int} {j : Nat} (hj : j ≤ 7) (h0 : 0 ≤ n) (hn : n < 128 ^ j) (hy0 : 0 ≤ y) (hy : y < 128) : Go.bits .or .i64 n (y * 128 ^ j) = n + y * 128 ^ j := by
  have : j = 0 ∨ j = 1 ∨ j = 2 ∨ j = 3 ∨ j = 4 ∨ j = 5 ∨ j = 6 ∨ j = 7 := by omega
  rcases this with rfl | rfl | rfl | rfl | rfl | rfl | rfl | rfl
  · exact or_join 0 (by omega) (by omega) (by omega) h0 (by omega) (by omega)
  · exact or_join 7 (by omega) (by omega) (by omega) h0 (by omega) (by omega)
  · exact or_join 14 (by omega) (by omega) (by omega) h0 (by omega) (by omega)
  · exact or_join 21 (by omega) (by omega) (by omega) h0 (by omega) (by omega)
  · exact or_join 28 (by omega) (by omega) (by omega) h0 (by omega) (by omega)
  · exact or_join 35 (by omega) (by omega) (by omega) h0 (by omega) (by omega)
  · exact or_join 42 (by omega) (by omega) (by omega) h0 (by omega) (by omega)
  · exact or_join 49 (by omega) (by omega) (by omega) h0 (by omega) (by omega)
def rdv (l : List Int) (at_ : Int) : Nat → Nat → Int → Int × Int × Bool
  | 0, _, _ => (0, 0, false)
  | d + 1, j, n => if 0 ≤ at_ ∧ at_ + (j : Int) < (l.length : Int) then
      (if rd l (at_ + (j : Int)) < 128 then (n + rd l (at_ + (j : Int)) * 128 ^ j, at_ + (j : Int) + 1, decide (j = 0 ∨ 0 < rd l (at_ + (j : Int))))
       else rdv l at_ d (j + 1) (n + (rd l (at_ + (j : Int)) - 128) * 128 ^ j))
    else (0, 0, false)
def getVar (l : List Int) (at_ : Int) : Int × Int × Bool :=
  if (rdv l at_ 6 0 0).2.2 = true ∧ (rdv l at_ 6 0 0).1 ≤ 1000000000000 then rdv l at_ 6 0 0 else (0, 0, false)
theorem rd_byt {l : List Int} (hb : Byt l) (i : Int) : 0 ≤ rd l i ∧ rd l i ≤ 255 := by
  unfold rd
  rw [List.getD_eq_getElem?_getD]
  by_cases h : i.toNat < l.length
  · rw [List.getElem?_eq_getElem h]; exact hb _ (List.getElem_mem h)
  · rw [List.getElem?_eq_none (by omega)]; simp
theorem var_step {j : Nat} (n y : Int) (hn0 : 0 ≤ n) (hn : n < 128 ^ j) (h0 : 0 ≤ y) (h1 : y < 128) : 0 ≤ n + y * 128 ^ j ∧ n + y * 128 ^ j < 128 ^ (j + 1) := by
  have hp : (0 : Int) < 128 ^ j := Int.pow_pos (by decide)
  rw [Int.pow_succ]
  have h2 : 0 ≤ y * 128 ^ j := Int.mul_nonneg h0 (by omega)
  have h3 : y * 128 ^ j ≤ 127 * 128 ^ j := Int.mul_le_mul_of_nonneg_right (by omega) (by omega)
  omega
def bytesOfS (s : Int) : List Int × Bool :=
  if s < 1 then ([], false) else if s < 2 then ([], true) else if s < 256 then ([], false) else if s < 512 then (dg 1 s, true) else if s < 65536 then ([], false) else if s < 131072 then (dg 2 s, true)
  else if s < 16777216 then ([], false) else if s < 33554432 then (dg 3 s, true) else if s < 4294967296 then ([], false) else if s < 8589934592 then (dg 4 s, true)
  else if s < 1099511627776 then ([], false) else if s < 2199023255552 then (dg 5 s, true) else if s < 281474976710656 then ([], false) else if s < 562949953421312 then (dg 6 s, true) else ([], false)
theorem dg_get (n : Nat) (s : Int) (i : Nat) (h : i < n) : (dg n s)[i]? = some (s / 256 ^ (n - 1 - i) % 256) := by
  induction n generalizing s with
  | zero => omega
  | succ n ih =>
    rw [dg]
    by_cases e : i = n
    · subst e
      rw [List.getElem?_append_right (by rw [dg_length]; omega), dg_length]
      simp
    · rw [List.getElem?_append_left (by rw [dg_length]; omega), ih _ (by omega)]
      rw [Int.ediv_ediv_of_nonneg (by omega), show n + 1 - 1 - i = (n - 1 - i) + 1 from by omega, Int.pow_succ, Int.mul_comm]
theorem shr8 (s : Int) {n : Nat} (hn : n ≤ 7) : shr .i64 s (8 * (n : Int)) = s / 256 ^ n := by
  have : n = 0 ∨ n = 1 ∨ n = 2 ∨ n = 3 ∨ n = 4 ∨ n = 5 ∨ n = 6 ∨ n = 7 := by omega
  rcases this with rfl | rfl | rfl | rfl | rfl | rfl | rfl | rfl <;> simp [shr, IntKind.bits]
theorem byt_sub {l m : List Int} (h : Byt l) (hs : ∀ x ∈ m, x ∈ l) : Byt m := fun x hx => h x (hs x hx)
theorem byt_take {l : List Int} (h : Byt l) (n : Nat) : Byt (l.take n) := byt_sub h fun x hx => List.mem_of_mem_take hx
theorem byt_drop {l : List Int} (h : Byt l) (n : Nat) : Byt (l.drop n) := byt_sub h fun x hx => List.mem_of_mem_drop hx
theorem byt_append {l m : List Int} (h : Byt l) (h' : Byt m) : Byt (l ++ m) := by
  intro x hx
  rcases List.mem_append.1 hx with hx | hx
  · exact h x hx
  · exact h' x hx
theorem byt_nil : Byt [] := fun x hx => by simp at hx
theorem ite_len {c : Prop} [Decidable c] {a b : List Int × Bool} (ha : a.1.length ≤ 6) (hb : b.1.length ≤ 6) : (if c then a else b).1.length ≤ 6 := by
  by_cases h : c
  · rw [if_pos h]; exact ha
  · rw [if_neg h]; exact hb
theorem bytesOfS_length (s : Int) : (bytesOfS s).1.length ≤ 6 := by
  unfold bytesOfS
  iterate 14 (refine ite_len (by simp [dg_length]) ?_)
  simp
def sumOf (l : List Int) : Int × Int := if l.length ≤ 6 then (weakOf l, sumS l) else (0, 0)
theorem pow256_le {m n : Nat} (h : m ≤ n) : (256 : Int) ^ m ≤ 256 ^ n := by
  rcases Nat.lt_or_ge m n with h' | h'
  · have := pow256_lt h'; have := pow256_pos m; omega
  · rw [show m = n from by omega]; exact Int.le_refl _
theorem pow128_le {m n : Nat} (h : m ≤ n) : (128 : Int) ^ m ≤ 128 ^ n := by
  obtain ⟨d, rfl⟩ : ∃ d, n = m + d := ⟨n - m, by omega⟩
  induction d with
  | zero => exact Int.le_refl _
  | succ d ih =>
    have h1 := ih (by omega)
    have h2 : (0 : Int) < 128 ^ m := Int.pow_pos (by decide)
    rw [← Nat.add_assoc, Int.pow_succ]; omega
theorem sumS_small {l : List Int} (hb : Byt l) (hl : l.length ≤ 6) : 1 ≤ sumS l ∧ sumS l < 562949953421312 := by
  have h1 := sumS_bd l hb
  have h2 := pow256_le hl
  have h3 := pow256_pos l.length
  omega
theorem or_256 {s c : Int} (h0 : 0 ≤ s) (h1 : s < 562949953421312) (hc0 : 0 ≤ c) (hc1 : c ≤ 255) : Go.bits .or .i64 (s * 256) c = s * 256 + c :=
  bits_join .i64 63 (by decide) wraps_i64 8 (s * 256) c (by omega) (by omega) (by omega) hc0 (by omega) (by omega)
def vr : Nat → Int → List Int
  | 0, n => [n]
  | f + 1, n => if n < 128 then [n] else (n % 128 + 128) :: vr f (n / 128)
theorem vr_length (f : Nat) (n : Int) : 1 ≤ (vr f n).length ∧ (vr f n).length ≤ f + 1 := by
  induction f generalizing n with
  | zero => simp [vr]
  | succ f ih =>
    rw [vr]
    by_cases h : n < 128
    · rw [if_pos h]; simp
    · rw [if_neg h]; have := ih (n / 128); simp; omega
def putVar (l : List Int) (n : Int) : List Int := if 0 ≤ n ∧ n ≤ 1000000000000 then l ++ vr 8 n else l
theorem putVar_length (l : List Int) (n : Int) : l.length ≤ (putVar l n).length ∧ (putVar l n).length ≤ l.length + 9 := by
  unfold putVar
  by_cases h : 0 ≤ n ∧ n ≤ 1000000000000
  · rw [if_pos h, List.length_append]; have := vr_length 8 n; omega
  · rw [if_neg h]; omega
theorem and127n {x : Int} (h0 : 0 ≤ x) (h1 : x < 9223372036854775808) : Go.bits .and .i64 x 127 = x % 128 := bits_mask .i64 63 (by decide) wraps_i64 7 (by decide) x h0 (by omega)
theorem nat_or128 : ∀ x, x < 256 → x ||| 128 = x % 128 + 128 := by decide +kernel
theorem or128 {x : Int} (h0 : 0 ≤ x) (h1 : x < 128) : Go.bits .or .i64 x 128 = x + 128 := by
  obtain ⟨a, rfl⟩ := Int.eq_ofNat_of_zero_le h0
  have h := (bits_nat .i64 63 (by decide) wraps_i64 a 128 (by omega) (by decide)).2
  rw [show ((128 : Nat) : Int) = 128 from rfl, nat_or128 a (by omega)] at h
  rw [h]; omega
theorem or128u {x : Int} (h0 : 0 ≤ x) (h1 : x < 256) : Go.bits .or .u8 x 128 = x % 128 + 128 := by
  obtain ⟨a, rfl⟩ := Int.eq_ofNat_of_zero_le h0
  have h := (bits_nat .u8 8 (by decide) wraps_u8 a 128 (by omega) (by decide)).2
  rw [show ((128 : Nat) : Int) = 128 from rfl, nat_or128 a (by omega)] at h
  rw [h]; omega
theorem rdv_range {l : List Int} (hb : Byt l) (a : Int) (d : Nat) : ∀ (j : Nat) (n : Int), 0 ≤ n → (rdv l a d j n).2.2 = true → 0 ≤ (rdv l a d j n).1 ∧ 0 ≤ a ∧ a + (j : Int) < (rdv l a d j n).2.1 ∧ (rdv l a d j n).2.1 ≤ (l.length : Int) := by
  induction d with
  | zero => intro j n hn h; simp [rdv] at h
  | succ d ih =>
    intro j n hn h
    rw [rdv] at h ⊢
    have hx := rd_byt hb (a + (j : Int))
    have hp : (0 : Int) < 128 ^ j := Int.pow_pos (by decide)
    by_cases hin : 0 ≤ a ∧ a + (j : Int) < (l.length : Int)
    · rw [if_pos hin] at h ⊢
      by_cases h128 : rd l (a + (j : Int)) < 128
      · rw [if_pos h128] at h ⊢
        have := Int.mul_nonneg hx.1 (by omega : (0 : Int) ≤ 128 ^ j)
        refine ⟨?_, hin.1, ?_, ?_⟩ <;> dsimp only <;> omega
      · rw [if_neg h128] at h ⊢
        have := Int.mul_nonneg (by omega : 0 ≤ rd l (a + (j : Int)) - 128) (by omega : (0 : Int) ≤ 128 ^ j)
        obtain ⟨g0, g1, g2, g3⟩ := ih (j + 1) _ (by omega) h
        exact ⟨g0, g1, by omega, g3⟩
    · rw [if_neg hin] at h; simp at h
theorem getVar_range {l : List Int} (hb : Byt l) (hl : l.length ≤ 140737488351232) (a : Int) (h : (getVar l a).2.2 = true) : 0 ≤ (getVar l a).1 ∧ (getVar l a).1 ≤ 1000000000000 ∧ 0 < (getVar l a).2.1 ∧ (getVar l a).2.1 ≤ (l.length : Int) := by
  unfold getVar at h ⊢
  by_cases hc : (rdv l a 6 0 0).2.2 = true ∧ (rdv l a 6 0 0).1 ≤ 1000000000000
  · rw [if_pos hc] at h ⊢
    obtain ⟨g0, g1, g2, g3⟩ := rdv_range hb a 6 0 0 (by omega) hc.1
    exact ⟨g0, hc.2, by omega, g3⟩
  · rw [if_neg hc] at h; simp at h
def blockAt (l : List Int) (s i : Int) : List Int × Bool :=
  if (spanOf s (l.length : Int) i).2 = 0 then ([], false) else ((l.take ((spanOf s (l.length : Int) i).1 + (spanOf s (l.length : Int) i).2).toNat).drop (spanOf s (l.length : Int) i).1.toNat, true)
theorem spanOf_range (s n i : Int) (h : (spanOf s n i).2 ≠ 0) : 0 ≤ (spanOf s n i).1 ∧ 0 < (spanOf s n i).2 ∧ (spanOf s n i).1 + (spanOf s n i).2 ≤ n := by
  unfold spanOf at h ⊢
  by_cases hc : 0 ≤ i ∧ i ≤ blocks s n - 1
  · obtain ⟨h0, h1, h2, h3, h4, h5, h6⟩ := span_in hc.1 hc.2
    rw [if_pos hc]
    simp only [mn]
    split <;> exact ⟨by omega, by omega, by omega⟩
  · rw [if_neg hc] at h; simp at h
theorem and_le (x : Int) : 0 ≤ Go.bits .and .i64 x 255 ∧ Go.bits .and .i64 x 255 ≤ 255 := by
  have h : (BitVec.ofInt 64 x &&& BitVec.ofInt 64 255).toNat ≤ 255 := by
    rw [BitVec.toNat_and]
    exact Nat.le_trans Nat.and_le_right (by decide)
  have e : Go.bits .and .i64 x 255 = IntKind.i64.wrap ((BitVec.ofInt 64 x &&& BitVec.ofInt 64 255).toNat : Int) := rfl
  rw [e, wraps_i64 _ (by omega) (by omega)]
  omega
def Cur (b : List Int) (i : Int) : Prop := b.length ≤ 1048576 ∧ 0 ≤ i ∧ i ≤ (b.length : Int)
theorem mod256 {x : Int} (h0 : 0 ≤ x) (h1 : x ≤ 255) : x % 256 = x := by omega
def sumsOf (l : List Int) (s : Int) : List (Int × Int) := (List.range (blocks s (l.length : Int)).toNat).map fun (i : Nat) => sumOf (blockAt l s (i : Int)).1
theorem sumsOf_length (l : List Int) (s : Int) : ((sumsOf l s).length : Int) = blocks s (l.length : Int) := by
  have := blocks_le s (l.length : Int)
  simp [sumsOf]; omega
theorem blockAt_byt {l : List Int} (h : Byt l) (s i : Int) : Byt (blockAt l s i).1 := by
  unfold blockAt; split
  · exact byt_nil
  · exact byt_drop (byt_take h _) _
def fullSet (n : Int) : Int := if 0 ≤ n ∧ n ≤ 40 then wrap64 (shl .i64 1 n - 1) else 0
abbrev Man := Int × Int × Int × List (Int × Int)
def manOf (g : Int) (l : List Int) (s : Int) : Man := if 1 ≤ g ∧ g ≤ 1000000 ∧ sizeOk s (l.length : Int) = true then (g, s, (l.length : Int), sumsOf l s) else (0, 0, 0, [])
end Go.Proofs.Ytdodnhjglpidlaa.Lib
namespace Go.Proofs.Ytdodnhjglpidlaa.PrintWords
open Go.ChangeShapes Go.WideShapes
theorem sized_ints {H : Type} {enc : TypeId × Value → H} {P : Program} {W : World} {base : Nat} {spare : Nat → Bool} {held : Bool} {t e : TypeId} {k : IntKind} {a : Option Addr} {len cap : Nat} {d : DataW H} {ps : List MemPlace} {ts : List TypeId} {ds : List (DataW H)} {j : Nat}
    (hsz : (DataW.weightsEach P ts ds).all (· ≤ reachBytes) = true) (ht : ts[j]? = some t) (hd : ds[j]? = some d) (hu : P.underlying t = some (.slice e)) (he : P.underlying e = some (.int k)) (hc : P.cellsOf e = 1) {B : Nat} (hB : P.bytesOf e = B)
    (h : DataW.Trod enc P W base spare held t (.slice a len cap) d ps) : len * B ≤ 140737488351232 := Go.Proofs.YtdodnhjglpidlaaW.PrintWords.sized_ints hsz ht hd hu he hc hB h
end Go.Proofs.Ytdodnhjglpidlaa.PrintWords
