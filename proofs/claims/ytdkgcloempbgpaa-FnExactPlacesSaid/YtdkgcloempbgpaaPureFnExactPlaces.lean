/- Places returns what the reference's Places returns, in memory of its own, and leaves its arguments as they were, for all arguments; no condition. -/
import Derived.Test.YtdkgcloempbgpaaPFnExactPlacesx8
import Derived.Test.YtdkgcloempbgpaaLib
set_option linter.unusedVariables false
set_option linter.unusedSimpArgs false
namespace Go.Proofs.Ytdkgcloempbgpaa.Pure
open Go.RowKit Go.Proofs.Ytdkgcloempbgpaa.PFnExactPlaces Go.Proofs.YtdkgcloempbgpaaW.PrintWords Go.Proofs.YtdkgcloempbgpaaW.PrintLast Go.Proofs.YtdkgcloempbgpaaW.PrintMore Go.Proofs.Ytdkgcloempbgpaa.Lib

instance : DecidableEq S66 := fun a b => decidable_of_iff (a.f0 = b.f0 ∧ a.f1 = b.f1) ⟨fun h => by cases a; cases b; simp_all, fun h => by rw [h]; exact ⟨rfl, rfl⟩⟩
def toS (p : Int × Int) : S66 := ⟨p.1, p.2⟩
def toSs (l : List (Int × Int)) : List S66 := l.map toS
theorem toS_inj {p q : Int × Int} (h : toS p = toS q) : p = q := by
  have h1 := congrArg S66.f0 h
  have h2 := congrArg S66.f1 h
  exact Prod.ext h1 h2
theorem toSs_inj {l m : List (Int × Int)} (h : toSs l = toSs m) : l = m := (List.map_inj_right (fun p q hq => toS_inj hq)).1 h
theorem toSs_length (l : List (Int × Int)) : (toSs l).length = l.length := by simp [toSs]
theorem toSs_onto (l : List S66) : ∃ m, l = toSs m ∧ m.length = l.length := ⟨l.map fun s => (s.f0, s.f1), by
  induction l with
  | nil => rfl
  | cons s l ih => simp only [List.map_cons, toSs] at ih ⊢; rw [← ih]; rfl, by simp⟩
theorem rd_S {l : List S66} {i : Nat} (h : i < l.length) : rd_T66 l (i : Int) = l[i] := by
  unfold rd_T66
  rw [Int.toNat_natCast, List.getD_eq_getElem?_getD, List.getElem?_eq_getElem h]; rfl
theorem drop_eq_iffS {a b : List S66} {i : Nat} (ha : i < a.length) (hb : i < b.length) : (a.drop i = b.drop i) ↔ (a[i] = b[i] ∧ a.drop (i + 1) = b.drop (i + 1)) := by
  rw [List.drop_eq_getElem_cons ha, List.drop_eq_getElem_cons hb, List.cons.injEq]
theorem S_eq_iff {a b : S66} : (a.f0, a.f1) = (b.f0, b.f1) ↔ a = b := by cases a; cases b; simp

def ofL (s : S95) : Int × Int := (s.f0, s.f1)
def ofLs (l : List S95) : List (Int × Int) := l.map ofL
theorem ofLs_length (l : List S95) : (ofLs l).length = l.length := by simp [ofLs]
theorem rd_L {l : List S95} {i : Nat} (h : i < l.length) : rd_T95 l (i : Int) = l[i] := by
  unfold rd_T95
  rw [Int.toNat_natCast, List.getD_eq_getElem?_getD, List.getElem?_eq_getElem h]; rfl

theorem spec_l1In_v (a b c : Int) : spec_l1In.f a b c = some (decide (b ≤ a ∧ a ≤ c)) := by
  unfold spec_l1In.f
  by_cases h : b ≤ a
  · rw [if_pos h]; simp [h]
  · rw [if_neg h]; simp [h]

theorem impl_within_v (a b c : Int) : impl_within.f a b c = some (decide (b ≤ a ∧ a ≤ c)) := by
  unfold impl_within.f
  by_cases h : b ≤ a
  · rw [if_pos h]; simp [h]
  · rw [if_neg h]; simp [h]

theorem laws_toByteS_l (l : List Int) (hl : l.length ≤ 140737488351232) (d : Nat) : ∀ (k : Nat) (out : List Int) (i : Nat), out.length = l.length → i ≤ l.length → l.length - i = d → d < k →
    (∀ j, j < i → out[j]? = l[j]?) → laws_toByteS.l0 k l out (i : Int) = some l := by
  induction d with
  | zero =>
    intro k out i ho hi hd hk hj
    obtain ⟨k, rfl⟩ : ∃ m, k = m + 1 := ⟨k - 1, by omega⟩
    simp only [laws_toByteS.l0]
    rw [if_neg (by omega)]
    congr 1
    apply List.ext_getElem?
    intro j
    by_cases hjl : j < i
    · exact hj j hjl
    · rw [List.getElem?_eq_none (by omega), List.getElem?_eq_none (by omega)]
  | succ d ih =>
    intro k out i ho hi hd hk hj
    obtain ⟨k, rfl⟩ : ∃ m, k = m + 1 := ⟨k - 1, by omega⟩
    simp only [laws_toByteS.l0]
    rw [if_pos (by omega), if_pos (by omega), if_pos (by omega), wnat (by omega), rd_at (by omega : i < l.length)]
    refine ih k _ (i + 1) (by simp [ho]) (by omega) (by omega) (by omega) (fun j h => ?_)
    rw [Int.toNat_natCast, List.getElem?_set]
    by_cases e : i = j
    · subst e; rw [if_pos rfl, if_pos (by omega), List.getElem?_eq_getElem]
    · rw [if_neg e]; exact hj j (by omega)
theorem laws_toByteS_v {k : Nat} {l : List Int} (hl : l.length ≤ 140737488351232) (hk : l.length < k) : laws_toByteS.f k l = some l := by
  unfold laws_toByteS.f
  rw [if_pos (by omega), if_pos (by omega)]
  exact laws_toByteS_l l hl l.length k _ 0 (by simp) (by omega) (by omega) hk (fun j h => by omega)

theorem laws_eqByteS_l (a b : List Int) (hab : a.length = b.length) (hl : a.length ≤ 140737488355328) (d : Nat) : ∀ (k : Nat) (i : Nat), i ≤ a.length → a.length - i = d → d < k →
    laws_eqByteS.l0 k a b (i : Int) = some (decide (a.drop i = b.drop i)) := by
  induction d with
  | zero =>
    intro k i hi hd hk
    obtain ⟨k, rfl⟩ : ∃ m, k = m + 1 := ⟨k - 1, by omega⟩
    simp only [laws_eqByteS.l0]
    rw [if_neg (by omega), List.drop_eq_nil_of_le (by omega), List.drop_eq_nil_of_le (by omega)]
    rfl
  | succ d ih =>
    intro k i hi hd hk
    obtain ⟨k, rfl⟩ : ∃ m, k = m + 1 := ⟨k - 1, by omega⟩
    simp only [laws_eqByteS.l0]
    rw [if_pos (by omega), if_pos (by omega), if_pos (by omega), wnat (by omega), rd_at (by omega : i < a.length), rd_at (by omega : i < b.length), ih k (i + 1) (by omega) (by omega) (by omega)]
    have e := drop_eq_iff (a := a) (b := b) (i := i) (by omega) (by omega)
    by_cases h : a[i]'(by omega) = b[i]'(by omega)
    · rw [if_pos h]; simp only [e, h, true_and]
    · rw [if_neg h]; simp only [e, h, false_and, decide_false]
theorem laws_eqByteS_v {k : Nat} {a b : List Int} (hl : a.length ≤ 140737488355328) (hk : a.length < k) : laws_eqByteS.f k a b = some (decide (a = b)) := by
  unfold laws_eqByteS.f
  by_cases h : a.length = b.length
  · rw [if_pos (by omega)]
    exact laws_eqByteS_l a b h hl a.length k 0 (by omega) (by omega) hk
  · rw [if_neg (by omega)]
    have : a ≠ b := fun e => h (by rw [e])
    simp [this]

theorem laws_eqIntS_l (a b : List Int) (hab : a.length = b.length) (hl : a.length ≤ 140737488355328) (d : Nat) : ∀ (k : Nat) (i : Nat), i ≤ a.length → a.length - i = d → d < k →
    laws_eqIntS.l0 k a b (i : Int) = some (decide (a.drop i = b.drop i)) := by
  induction d with
  | zero =>
    intro k i hi hd hk
    obtain ⟨k, rfl⟩ : ∃ m, k = m + 1 := ⟨k - 1, by omega⟩
    simp only [laws_eqIntS.l0]
    rw [if_neg (by omega), List.drop_eq_nil_of_le (by omega), List.drop_eq_nil_of_le (by omega)]
    rfl
  | succ d ih =>
    intro k i hi hd hk
    obtain ⟨k, rfl⟩ : ∃ m, k = m + 1 := ⟨k - 1, by omega⟩
    simp only [laws_eqIntS.l0]
    rw [if_pos (by omega), if_pos (by omega), if_pos (by omega), wnat (by omega), rd_at (by omega : i < a.length), rd_at (by omega : i < b.length), ih k (i + 1) (by omega) (by omega) (by omega)]
    have e := drop_eq_iff (a := a) (b := b) (i := i) (by omega) (by omega)
    by_cases h : a[i]'(by omega) = b[i]'(by omega)
    · rw [if_pos h]; simp only [e, h, true_and]
    · rw [if_neg h]; simp only [e, h, false_and, decide_false]
theorem laws_eqIntS_v {k : Nat} {a b : List Int} (hl : a.length ≤ 140737488355328) (hk : a.length < k) : laws_eqIntS.f k a b = some (decide (a = b)) := by
  unfold laws_eqIntS.f
  by_cases h : a.length = b.length
  · rw [if_pos (by omega)]
    exact laws_eqIntS_l a b h hl a.length k 0 (by omega) (by omega) hk
  · rw [if_neg (by omega)]
    have : a ≠ b := fun e => h (by rw [e])
    simp [this]

theorem spec_Wrap_v {a m : Int} (h0 : 1 ≤ m) (h1 : m ≤ 1000000000000) : spec_Wrap.f a m = some (a % m) := by
  unfold spec_Wrap.f
  rw [spec_l1In_v, Option.bind_some, decide_eq_true (by omega), if_pos rfl, if_neg (by omega)]
  have h2 : a.tmod m = a - m * a.tdiv m := by have := Int.mul_tdiv_add_tmod a m; omega
  have h3 : -m < a.tmod m ∧ a.tmod m < m := ⟨by have := Int.lt_tmod_of_pos a (by omega : 0 < m); omega, Int.tmod_lt_of_pos a (by omega)⟩
  rw [w64 (by omega) (by omega), tmod_nn (by omega), Int.add_emod_right, h2, Int.sub_mul_emod_self_left]

theorem impl_Wrap_v {a m : Int} (h0 : 1 ≤ m) (h1 : m ≤ 1000000000000) : impl_Wrap.f a m = some (a % m) := by
  unfold impl_Wrap.f
  rw [impl_within_v, Option.bind_some, decide_eq_true (by omega), if_pos rfl, if_neg (by omega)]
  have h2 : a.tmod m = a - m * a.tdiv m := by have := Int.mul_tdiv_add_tmod a m; omega
  have h3 : -m < a.tmod m ∧ a.tmod m < m := ⟨by have := Int.lt_tmod_of_pos a (by omega : 0 < m); omega, Int.tmod_lt_of_pos a (by omega)⟩
  rw [w64 (by omega) (by omega), tmod_nn (by omega), Int.add_emod_right, h2, Int.sub_mul_emod_self_left]

theorem impl_weak_v (x y : Int) : impl_weak.f x y = some (x % 251 + 251 * (y % 251)) := by
  unfold impl_weak.f
  rw [impl_Wrap_v (by omega) (by omega), impl_Wrap_v (by omega) (by omega)]
  simp only [Option.bind_some]
  rw [w64 (x := 251 * (y % 251)) (by omega) (by omega), w64 (by omega) (by omega)]

theorem spec_WeakOf_l (l : List Int) (hb : Byt l) (hl : l.length ≤ 140737488351232) (d : Nat) : ∀ (k : Nat) (i : Nat), i ≤ l.length → l.length - i = d → d < k →
    spec_WeakOf.l0 k l (sx (l.take i) % 251) (sy (l.take i) % 251) (i : Int) = some (weakOf l) := by
  induction d with
  | zero =>
    intro k i hi hd hk
    obtain ⟨k, rfl⟩ : ∃ m, k = m + 1 := ⟨k - 1, by omega⟩
    simp only [spec_WeakOf.l0]
    rw [if_neg (by omega), List.take_of_length_le (by omega), w64 (x := 251 * (sy l % 251)) (by omega) (by omega), w64 (by omega) (by omega)]
    rfl
  | succ d ih =>
    intro k i hi hd hk
    obtain ⟨k, rfl⟩ : ∃ m, k = m + 1 := ⟨k - 1, by omega⟩
    simp only [spec_WeakOf.l0]
    have hc := hb l[i] (List.getElem_mem (by omega))
    rw [if_pos (by omega), if_pos (by omega), wnat (by omega), rd_at (by omega : i < l.length), w64 (x := l[i]) (by omega) (by omega), w64 (by omega) (by omega), tmod_nn (by omega), w64 (by omega) (by omega), tmod_nn (by omega)]
    have e : l.take (i + 1) = l.take i ++ [l[i]] := List.take_succ_eq_append_getElem (by omega)
    have := ih k (i + 1) (by omega) (by omega) (by omega)
    rw [e, sx_snoc, sy_snoc] at this
    rw [show (sx (l.take i) % 251 + l[i]) % 251 = (sx (l.take i) + l[i]) % 251 from by omega, show (sy (l.take i) % 251 + (sx (l.take i) + l[i]) % 251) % 251 = (sy (l.take i) + sx (l.take i) + l[i]) % 251 from by omega]
    exact this
theorem spec_WeakOf_v {k : Nat} {l : List Int} (hb : Byt l) (hl : l.length ≤ 140737488351232) (hk : l.length < k) : spec_WeakOf.f k l = some (weakOf l) := by
  unfold spec_WeakOf.f
  exact spec_WeakOf_l l hb hl l.length k 0 (by omega) (by omega) hk

theorem impl_WeakOf_l (l : List Int) (hb : Byt l) (hl : l.length ≤ 140737488351232) (d : Nat) : ∀ (k : Nat) (i : Nat), i ≤ l.length → l.length - i = d → d < k →
    impl_WeakOf.l0 k (sx (l.take i) % 251) (sy (l.take i) % 251) l (l.length : Int) (i : Int) = some (weakOf l) := by
  induction d with
  | zero =>
    intro k i hi hd hk
    obtain ⟨k, rfl⟩ : ∃ m, k = m + 1 := ⟨k - 1, by omega⟩
    simp only [impl_WeakOf.l0]
    rw [if_neg (by omega), impl_weak_v, List.take_of_length_le (by omega)]
    simp only [Option.bind_some, weakOf, Int.emod_emod]
  | succ d ih =>
    intro k i hi hd hk
    obtain ⟨k, rfl⟩ : ∃ m, k = m + 1 := ⟨k - 1, by omega⟩
    simp only [impl_WeakOf.l0]
    have hc := hb l[i] (List.getElem_mem (by omega))
    rw [if_pos (by omega), if_pos (by omega), if_pos (by omega), wnat (by omega), rd_at (by omega : i < l.length), w64 (x := l[i]) (by omega) (by omega), w64 (by omega) (by omega), tmod_nn (by omega), w64 (by omega) (by omega), tmod_nn (by omega)]
    have e : l.take (i + 1) = l.take i ++ [l[i]] := List.take_succ_eq_append_getElem (by omega)
    have := ih k (i + 1) (by omega) (by omega) (by omega)
    rw [e, sx_snoc, sy_snoc] at this
    rw [show (sx (l.take i) % 251 + l[i]) % 251 = (sx (l.take i) + l[i]) % 251 from by omega, show (sy (l.take i) % 251 + (sx (l.take i) + l[i]) % 251) % 251 = (sy (l.take i) + sx (l.take i) + l[i]) % 251 from by omega]
    exact this
theorem impl_WeakOf_v {k : Nat} {l : List Int} (hb : Byt l) (hl : l.length ≤ 140737488351232) (hk : l.length < k) : impl_WeakOf.f k l = some (weakOf l) := by
  unfold impl_WeakOf.f
  exact impl_WeakOf_l l hb hl l.length k 0 (by omega) (by omega) hk

theorem spec_l3Ok_v (w : Int) : spec_l3Ok.f w = some (weakOk w) := by
  unfold spec_l3Ok.f weakOk; rw [spec_l1In_v]; rfl

theorem spec_WeakHalves_v (w : Int) : spec_WeakHalves.f w = some (weakHalves w) := by
  unfold spec_WeakHalves.f weakHalves
  rw [spec_l3Ok_v, Option.bind_some]
  by_cases h : weakOk w = true
  · have h' : 0 ≤ w ∧ w ≤ 63000 := of_decide_eq_true h
    rw [if_pos h, if_pos h, tmod_nn h'.1, tdiv_nn h'.1, w64 (by omega) (by omega)]
  · rw [if_neg h, if_neg h]

theorem spec_Roll_v {k : Nat} (w n o i : Int) (hk : 1 < k) : spec_Roll.f k w n o i = some (roll w n o i) := by
  obtain ⟨k, rfl⟩ : ∃ m, k = m + 1 := ⟨k - 1, by omega⟩
  unfold spec_Roll.f roll
  simp only [spec_Roll.j0, spec_l3Ok_v, spec_l1In_v, Option.bind_some, weakOk]
  by_cases hw : 0 ≤ w ∧ w ≤ 63000
  · by_cases hn : 1 ≤ n ∧ n ≤ 1000000000000
    · by_cases ho : 0 ≤ o ∧ o ≤ 255
      · by_cases hi : 0 ≤ i ∧ i ≤ 255
        · have hm := roll_bd n w o ho.1 ho.2
          rw [decide_eq_true hw, decide_eq_true hn, decide_eq_true ho, decide_eq_true hi, if_pos rfl, if_pos rfl, if_pos rfl, if_neg (by decide), if_pos ⟨hw.1, hw.2, hn.1, hn.2, ho.1, ho.2, hi.1, hi.2⟩]
          simp only [spec_WeakHalves_v, Option.bind_some, weakHalves, weakOk, decide_eq_true hw, if_true]
          rw [tmod_nn (by omega : 0 ≤ n)]
          generalize n % 251 * o = p at hm ⊢
          rw [w64 (x := p) (by omega) (by omega), w64 (x := w / 251 - p) (by omega) (by omega), w64 (x := w % 251 - o) (by omega) (by omega), w64 (x := w % 251 - o + i) (by omega) (by omega),
            spec_Wrap_v (by omega) (by omega), spec_Wrap_v (by omega) (by omega)]
          simp only [Option.bind_some]
          rw [w64 (x := (w / 251 - p) % 251 + (w % 251 - o + i) % 251) (by omega) (by omega), spec_Wrap_v (by omega) (by omega)]
          simp only [Option.bind_some]
          rw [show ((w / 251 - p) % 251 + (w % 251 - o + i) % 251) % 251 = (w / 251 - p + w % 251 - o + i) % 251 from by omega]
          generalize (w / 251 - p + w % 251 - o + i) = z
          rw [w64 (x := 251 * (z % 251)) (by omega) (by omega), w64 (by omega) (by omega)]
        · rw [decide_eq_true hw, decide_eq_true hn, decide_eq_true ho, decide_eq_false hi, if_pos rfl, if_pos rfl, if_pos rfl, if_pos (by decide), if_neg (by omega)]
      · rw [decide_eq_true hw, decide_eq_true hn, decide_eq_false ho, if_pos rfl, if_pos rfl, if_neg (by decide), if_pos trivial, if_neg (by omega)]
    · rw [decide_eq_true hw, decide_eq_false hn, if_pos rfl, if_neg (by decide), if_pos trivial, if_neg (by omega)]
  · rw [decide_eq_false hw, if_neg (by decide), if_pos trivial, if_neg (by omega)]

theorem spec_SizeOk_v (s n : Int) : spec_SizeOk.f s n = some (sizeOk s n) := by
  unfold spec_SizeOk.f sizeOk
  rw [spec_l1In_v]
  simp only [Option.bind_some]
  by_cases h : 2 ≤ s ∧ s ≤ 6
  · rw [decide_eq_true h, if_pos rfl, spec_l1In_v, w64 (by omega) (by omega)]
    simp [h]
  · rw [decide_eq_false h, if_neg (by decide)]
    have : ¬ (2 ≤ s ∧ s ≤ 6 ∧ 0 ≤ n ∧ n ≤ s * 40) := fun g => h ⟨g.1, g.2.1⟩
    rw [decide_eq_false this]

theorem impl_SizeOk_v (s n : Int) : impl_SizeOk.f s n = some (sizeOk s n) := by
  unfold impl_SizeOk.f sizeOk
  rw [impl_within_v]
  simp only [Option.bind_some]
  by_cases h : 2 ≤ s ∧ s ≤ 6
  · rw [decide_eq_true h, if_pos rfl, impl_within_v, Int.mul_comm 40 s, w64 (by omega) (by omega)]
    simp [h]
  · rw [decide_eq_false h, if_neg (by decide)]
    have : ¬ (2 ≤ s ∧ s ≤ 6 ∧ 0 ≤ n ∧ n ≤ s * 40) := fun g => h ⟨g.1, g.2.1⟩
    rw [decide_eq_false this]

theorem spec_CeilDiv_v {a b : Int} (h0 : 0 ≤ a) (h1 : a ≤ 1000000000000) (h2 : 1 ≤ b) (h3 : b ≤ 1000000000000) : spec_CeilDiv.f a b = some ((a + b - 1) / b) := by
  unfold spec_CeilDiv.f
  rw [spec_l1In_v, Option.bind_some, decide_eq_true (by omega), if_pos rfl, spec_l1In_v, Option.bind_some, decide_eq_true (by omega), if_pos rfl, if_neg (by omega), w64 (x := a + b) (by omega) (by omega), w64 (x := a + b - 1) (by omega) (by omega), tdiv_nn (by omega)]
  have h4 : 0 ≤ (a + b - 1) / b := Int.ediv_nonneg (by omega) (by omega)
  have h5 : (a + b - 1) / b ≤ a + b - 1 := Int.ediv_le_self _ (by omega)
  rw [w64 (by omega) (by omega)]

theorem impl_CeilDiv_v {a b : Int} (h0 : 0 ≤ a) (h1 : a ≤ 1000000000000) (h2 : 1 ≤ b) (h3 : b ≤ 1000000000000) : impl_CeilDiv.f a b = some ((a + b - 1) / b) := by
  unfold impl_CeilDiv.f
  rw [impl_within_v, Option.bind_some, decide_eq_true (by omega), if_pos rfl, impl_within_v, Option.bind_some, decide_eq_true (by omega), if_pos rfl, if_neg (by omega), w64 (x := a + b) (by omega) (by omega), w64 (x := a + b - 1) (by omega) (by omega), tdiv_nn (by omega)]
  have h4 : 0 ≤ (a + b - 1) / b := Int.ediv_nonneg (by omega) (by omega)
  have h5 : (a + b - 1) / b ≤ a + b - 1 := Int.ediv_le_self _ (by omega)
  rw [w64 (by omega) (by omega)]

theorem spec_Blocks_v (s n : Int) : spec_Blocks.f s n = some (blocks s n) := by
  unfold spec_Blocks.f blocks
  rw [spec_SizeOk_v, Option.bind_some]
  by_cases h : sizeOk s n = true
  · obtain ⟨h0, h1, h2, h3⟩ := sizeOk_iff.1 h
    rw [if_pos h, if_pos h, spec_CeilDiv_v (by omega) (by omega) (by omega) (by omega)]
    rfl
  · rw [if_neg h, if_neg h]

theorem impl_Blocks_v (s n : Int) : impl_Blocks.f s n = some (blocks s n) := by
  unfold impl_Blocks.f blocks
  rw [impl_SizeOk_v, Option.bind_some]
  by_cases h : sizeOk s n = true
  · obtain ⟨h0, h1, h2, h3⟩ := sizeOk_iff.1 h
    rw [if_pos h, if_pos h, impl_CeilDiv_v (by omega) (by omega) (by omega) (by omega)]
    rfl
  · rw [if_neg h, if_neg h]

theorem spec_Least_v (a b : Int) : spec_Least.f a b = some (mn a b) := by
  unfold spec_Least.f mn
  by_cases h : b < a
  · rw [if_pos h, if_pos h]
  · rw [if_neg h, if_neg h]

theorem spec_SpanOf_v (s n i : Int) : spec_SpanOf.f s n i = some (spanOf s n i) := by
  unfold spec_SpanOf.f spanOf
  rw [spec_Blocks_v, Option.bind_some, spec_l1In_v, Option.bind_some]
  have hb := blocks_le s n
  rw [w64 (x := blocks s n - 1) (by omega) (by omega)]
  by_cases h : 0 ≤ i ∧ i ≤ blocks s n - 1
  · obtain ⟨h0, h1, h2, h3, h4, h5, h6⟩ := span_in h.1 h.2
    rw [decide_eq_true h, if_pos rfl, if_pos h, spec_Least_v, Option.bind_some, w64 (x := i * s) (by omega) (by omega), w64 (by omega) (by omega)]
  · rw [decide_eq_false h, if_neg (by decide), if_neg h]

theorem impl_SpanOf_v (s n i : Int) : impl_SpanOf.f s n i = some (spanOf s n i) := by
  unfold impl_SpanOf.f spanOf
  rw [impl_Blocks_v, Option.bind_some, impl_within_v, Option.bind_some]
  have hb := blocks_le s n
  rw [w64 (x := blocks s n - 1) (by omega) (by omega)]
  by_cases h : 0 ≤ i ∧ i ≤ blocks s n - 1
  · obtain ⟨h0, h1, h2, h3, h4, h5, h6⟩ := span_in h.1 h.2
    rw [decide_eq_true h, if_pos rfl, if_pos h, w64 (x := i * s) (by omega) (by omega), w64 (by omega) (by omega)]
  · rw [decide_eq_false h, if_neg (by decide), if_neg h]

theorem laws_markByteS_l (c : Int) (n : Nat) (hc : 0 ≤ c) (hl : c + n ≤ 4611686018427387904) (d : Nat) : ∀ (k : Nat) (x : List Int) (i : Nat), x.length = n → i ≤ n → n - i = d → d < k →
    (∀ j, j < i → x[j]? = (markB c n)[j]?) → laws_markByteS.l0 k x (c + (i : Int)) (i : Int) = some (c + (n : Int), markB c n) := by
  induction d with
  | zero =>
    intro k x i hx hi hd hk hj
    obtain ⟨k, rfl⟩ : ∃ m, k = m + 1 := ⟨k - 1, by omega⟩
    simp only [laws_markByteS.l0]
    rw [if_neg (by omega), ext_all hx (markB_length c n) (fun j h => hj j (by omega)), show i = n from by omega]
  | succ d ih =>
    intro k x i hx hi hd hk hj
    obtain ⟨k, rfl⟩ : ∃ m, k = m + 1 := ⟨k - 1, by omega⟩
    simp only [laws_markByteS.l0]
    rw [if_pos (by omega), if_pos (by omega), wnat (by omega), w64 (by omega) (by omega), show c + (i : Int) + 1 = c + ((i + 1 : Nat) : Int) from by omega]
    exact ih k _ (i + 1) (by simp [hx]) (by omega) (by omega) (by omega) (set_step (by omega) hj (markB_get c n i (by omega)))
theorem laws_markByteS_v {k : Nat} {x : List Int} {c : Int} (hc : 0 ≤ c) (hl : c + x.length ≤ 4611686018427387904) (hk : x.length < k) : laws_markByteS.f k x c = some (c + (x.length : Int), markB c x.length) := by
  unfold laws_markByteS.f
  have h := laws_markByteS_l c x.length hc hl x.length k x 0 rfl (by omega) (by omega) hk (fun j h => by omega)
  rw [show c + ((0 : Nat) : Int) = c from by omega] at h
  exact h

theorem laws_markIntS_l (c : Int) (n : Nat) (hc : 0 ≤ c) (hl : c + n ≤ 4611686018427387904) (d : Nat) : ∀ (k : Nat) (x : List Int) (i : Nat), x.length = n → i ≤ n → n - i = d → d < k →
    (∀ j, j < i → x[j]? = (markI c n)[j]?) → laws_markIntS.l0 k x (c + (i : Int)) (i : Int) = some (c + (n : Int), markI c n) := by
  induction d with
  | zero =>
    intro k x i hx hi hd hk hj
    obtain ⟨k, rfl⟩ : ∃ m, k = m + 1 := ⟨k - 1, by omega⟩
    simp only [laws_markIntS.l0]
    rw [if_neg (by omega), ext_all hx (markI_length c n) (fun j h => hj j (by omega)), show i = n from by omega]
  | succ d ih =>
    intro k x i hx hi hd hk hj
    obtain ⟨k, rfl⟩ : ∃ m, k = m + 1 := ⟨k - 1, by omega⟩
    simp only [laws_markIntS.l0]
    rw [if_pos (by omega), if_pos (by omega), wnat (by omega), w64 (by omega) (by omega), show c + (i : Int) + 1 = c + ((i + 1 : Nat) : Int) from by omega]
    exact ih k _ (i + 1) (by simp [hx]) (by omega) (by omega) (by omega) (set_step (by omega) hj (markI_get c n i (by omega)))
theorem laws_markIntS_v {k : Nat} {x : List Int} {c : Int} (hc : 0 ≤ c) (hl : c + x.length ≤ 4611686018427387904) (hk : x.length < k) : laws_markIntS.f k x c = some (c + (x.length : Int), markI c x.length) := by
  unfold laws_markIntS.f
  have h := laws_markIntS_l c x.length hc hl x.length k x 0 rfl (by omega) (by omega) hk (fun j h => by omega)
  rw [show c + ((0 : Nat) : Int) = c from by omega] at h
  exact h

theorem laws_heldIntS_l (c : Int) (n : Nat) (hc : 0 ≤ c) (hl : c + n ≤ 4611686018427387904) (d : Nat) : ∀ (k : Nat) (i : Nat), i ≤ n → n - i = d → d < k →
    laws_heldIntS.l0 k (markI c n) (c + (i : Int)) (i : Int) = some (c + (n : Int)) := by
  induction d with
  | zero =>
    intro k i hi hd hk
    obtain ⟨k, rfl⟩ : ∃ m, k = m + 1 := ⟨k - 1, by omega⟩
    simp only [laws_heldIntS.l0, markI_length]
    rw [if_neg (by omega), show i = n from by omega]
  | succ d ih =>
    intro k i hi hd hk
    obtain ⟨k, rfl⟩ : ∃ m, k = m + 1 := ⟨k - 1, by omega⟩
    simp only [laws_heldIntS.l0, markI_length]
    rw [if_pos (by omega), if_pos (by omega), markI_rd c n i (by omega), if_pos rfl, wnat (by omega), w64 (by omega) (by omega), show c + (i : Int) + 1 = c + ((i + 1 : Nat) : Int) from by omega]
    exact ih k (i + 1) (by omega) (by omega) (by omega)
theorem laws_heldIntS_v {k : Nat} {n : Nat} {c : Int} (hc : 0 ≤ c) (hl : c + n ≤ 4611686018427387904) (hk : n < k) : laws_heldIntS.f k (markI c n) c = some (c + (n : Int)) := by
  unfold laws_heldIntS.f
  have h := laws_heldIntS_l c n hc hl n k 0 (by omega) (by omega) hk
  rw [show c + ((0 : Nat) : Int) = c from by omega] at h
  exact h

theorem spec_SumOf_l (l : List Int) (hb : Byt l) (hl : l.length ≤ 6) (d : Nat) : ∀ (k : Nat) (i : Nat), i ≤ l.length → l.length - i = d → d + 10 < k → spec_SumOf.l0 k l (sumS (l.take i)) (i : Int) = some (weakOf l, sumS l) := by
  induction d with
  | zero =>
    intro k i hi hd hk
    obtain ⟨k, rfl⟩ : ∃ m, k = m + 1 := ⟨k - 1, by omega⟩
    simp only [spec_SumOf.l0]
    rw [if_neg (by omega), spec_WeakOf_v hb (by omega) (by omega), List.take_of_length_le (by omega)]; rfl
  | succ d ih =>
    intro k i hi hd hk
    obtain ⟨k, rfl⟩ : ∃ m, k = m + 1 := ⟨k - 1, by omega⟩
    simp only [spec_SumOf.l0]
    have hc := hb l[i] (List.getElem_mem (by omega))
    have h1 := sumS_small (l := l.take i) (byt_take hb i) (by simp; omega)
    rw [if_pos (by omega), if_pos (by omega), wnat (by omega), rd_at (by omega : i < l.length), w64 (x := 256 * sumS (l.take i)) (by omega) (by omega), w64 (x := l[i]) (by omega) (by omega), w64 (by omega) (by omega)]
    have e : l.take (i + 1) = l.take i ++ [l[i]] := List.take_succ_eq_append_getElem (by omega)
    have := ih k (i + 1) (by omega) (by omega) (by omega)
    rw [e, sumS_snoc, Int.mul_comm] at this
    exact this
theorem spec_SumOf_v {k : Nat} {l : List Int} (hb : Byt l) (hk : 20 < k) : spec_SumOf.f k l = some (sumOf l) := by
  unfold spec_SumOf.f sumOf
  by_cases h : l.length ≤ 6
  · rw [if_neg (by omega), if_pos h]
    exact spec_SumOf_l l hb h l.length k 0 (by omega) (by omega) (by omega)
  · rw [if_pos (by omega), if_neg h]

theorem impl_SumOf_l (l : List Int) (hb : Byt l) (hl : l.length ≤ 6) (d : Nat) : ∀ (k : Nat) (i : Nat), i ≤ l.length → l.length - i = d → d + 10 < k → impl_SumOf.l0 k l (sumS (l.take i)) l (l.length : Int) (i : Int) = some (weakOf l, sumS l) := by
  induction d with
  | zero =>
    intro k i hi hd hk
    obtain ⟨k, rfl⟩ : ∃ m, k = m + 1 := ⟨k - 1, by omega⟩
    simp only [impl_SumOf.l0]
    rw [if_neg (by omega), impl_WeakOf_v hb (by omega) (by omega), List.take_of_length_le (by omega)]; rfl
  | succ d ih =>
    intro k i hi hd hk
    obtain ⟨k, rfl⟩ : ∃ m, k = m + 1 := ⟨k - 1, by omega⟩
    simp only [impl_SumOf.l0]
    have hc := hb l[i] (List.getElem_mem (by omega))
    have h1 := sumS_small (l := l.take i) (byt_take hb i) (by simp; omega)
    rw [if_pos (by omega), if_pos (by omega), if_pos (by omega), wnat (by omega), rd_at (by omega : i < l.length), w64 (x := sumS (l.take i) * 256) (by omega) (by omega), w64 (x := l[i]) (by omega) (by omega), or_256 (by omega) (by omega) hc.1 hc.2]
    have e : l.take (i + 1) = l.take i ++ [l[i]] := List.take_succ_eq_append_getElem (by omega)
    have := ih k (i + 1) (by omega) (by omega) (by omega)
    rw [e, sumS_snoc] at this
    exact this
theorem impl_SumOf_v {k : Nat} {l : List Int} (hb : Byt l) (hk : 20 < k) : impl_SumOf.f k l = some (sumOf l) := by
  unfold impl_SumOf.f sumOf
  by_cases h : l.length ≤ 6
  · rw [if_neg (by omega), if_pos h]
    exact impl_SumOf_l l hb h l.length k 0 (by omega) (by omega) (by omega)
  · rw [if_pos (by omega), if_neg h]

theorem laws_eqSum_v (a b c d : Int) : laws_eqSum.f a b c d = some (decide ((a, b) = (c, d))) := by
  unfold laws_eqSum.f
  by_cases h : a = c
  · by_cases h' : b = d
    · rw [if_pos h, if_pos h']; simp [h, h']
    · rw [if_pos h, if_neg h']; simp [h']
  · rw [if_neg h]; simp [h]

theorem spec_Windows_l (l : List Int) (hb : Byt l) (n : Nat) (hn : 1 ≤ n) (hnl : n ≤ l.length) (hl : l.length ≤ 1000000000000) (d : Nat) : ∀ (k i : Nat) (acc : List Int), i + n ≤ l.length → l.length - (i + n) = d → d + 10 < k →
    acc = (List.range (i + 1)).map (fun j => weakOf (win l n j)) → spec_Windows.l0 k l (n : Int) acc (weakOf (win l n i)) ((i + n : Nat) : Int) = some ((List.range (l.length - n + 1)).map (fun j => weakOf (win l n j))) := by
  induction d with
  | zero =>
    intro k i acc hi hd hk hacc
    obtain ⟨k, rfl⟩ : ∃ m, k = m + 1 := ⟨k - 1, by omega⟩
    simp only [spec_Windows.l0]
    rw [if_neg (by omega), hacc, show l.length - n + 1 = i + 1 from by omega]
  | succ d ih =>
    intro k i acc hi hd hk hacc
    obtain ⟨k, rfl⟩ : ∃ m, k = m + 1 := ⟨k - 1, by omega⟩
    simp only [spec_Windows.l0]
    have ha : acc.length = i + 1 := by rw [hacc]; simp
    have c1 := hb l[i] (List.getElem_mem (by omega))
    have c2 := hb (l[i + n]'(by omega)) (List.getElem_mem (by omega))
    rw [if_pos (by omega), w64 (x := ((i + n : Nat) : Int) - (n : Int)) (by omega) (by omega), show ((i + n : Nat) : Int) - (n : Int) = (i : Int) from by omega, if_pos (by omega), if_pos (by omega), if_pos (by omega), rd_at (by omega : i < l.length), rd_at (by omega : i + n < l.length),
      w64 (x := l[i]) (by omega) (by omega), w64 (x := l[i + n]'(by omega)) (by omega) (by omega), spec_Roll_v _ _ _ _ (by omega), Option.bind_some, if_pos (by omega), win_roll hb hn hl (by omega), wnat (by omega), show i + n + 1 = i + 1 + n from by omega]
    refine ih k (i + 1) _ (by omega) (by omega) (by omega) ?_
    rw [hacc, List.range_succ (n := i + 1), List.map_append]; rfl
theorem spec_Windows_v {k : Nat} {l : List Int} (hb : Byt l) (hl : l.length ≤ 1000000000000) (n : Int) (hk : l.length + 20 < k) : spec_Windows.f k l n = some (windows l n) := by
  unfold spec_Windows.f windows
  obtain ⟨k, rfl⟩ : ∃ m, k = m + 1 := ⟨k - 1, by omega⟩
  simp only [Option.bind_some, spec_Windows.j0]
  by_cases h : 1 ≤ n ∧ n ≤ (l.length : Int)
  · obtain ⟨m, rfl⟩ := Int.eq_ofNat_of_zero_le (by omega : 0 ≤ n)
    rw [if_neg (by omega), decide_eq_false (by omega), if_neg (by decide), if_pos (by omega), if_pos h.2, Int.toNat_natCast, spec_WeakOf_v (byt_take hb _) (by simp; omega) (by simp; omega)]
    simp only [Option.bind_some, List.nil_append, List.length_nil]
    rw [if_pos (by omega), if_pos h]
    have hw : l.take m = win l m 0 := by simp [win]
    rw [hw]
    have := spec_Windows_l l hb m (by omega) (by omega) hl (l.length - (0 + m)) k 0 [weakOf (win l m 0)] (by omega) rfl (by omega) (by simp)
    rw [Nat.zero_add] at this
    exact this
  · rw [if_neg h]
    by_cases h1 : n < 1
    · rw [if_pos h1, if_pos trivial]
    · rw [if_neg h1, decide_eq_true (by omega), if_pos rfl]

theorem laws_eqSumS_l (a b : List S66) (hab : a.length = b.length) (hl : a.length ≤ 140737488355328) (d : Nat) : ∀ (k : Nat) (i : Nat), i ≤ a.length → a.length - i = d → d < k →
    laws_eqSumS.l0 k a b (i : Int) = some (decide (a.drop i = b.drop i)) := by
  induction d with
  | zero =>
    intro k i hi hd hk
    obtain ⟨k, rfl⟩ : ∃ m, k = m + 1 := ⟨k - 1, by omega⟩
    simp only [laws_eqSumS.l0]
    rw [if_neg (by omega)]
    have e : a.drop i = b.drop i := by rw [List.drop_eq_nil_of_le (by omega), List.drop_eq_nil_of_le (by omega)]
    rw [decide_eq_true e]
  | succ d ih =>
    intro k i hi hd hk
    obtain ⟨k, rfl⟩ : ∃ m, k = m + 1 := ⟨k - 1, by omega⟩
    simp only [laws_eqSumS.l0]
    rw [if_pos (by omega), if_pos (by omega), if_pos (by omega), wnat (by omega), rd_S (by omega : i < a.length), rd_S (by omega : i < b.length), ih k (i + 1) (by omega) (by omega) (by omega), laws_eqSum_v, Option.bind_some]
    have e := drop_eq_iffS (a := a) (b := b) (i := i) (by omega) (by omega)
    by_cases h : a[i]'(by omega) = b[i]'(by omega)
    · rw [if_pos (decide_eq_true (S_eq_iff.2 h))]; simp only [e, h, true_and]
    · rw [if_neg (fun e2 => h (S_eq_iff.1 (of_decide_eq_true e2)))]; simp only [e, h, false_and, decide_false]
theorem laws_eqSumS_v {k : Nat} {a b : List S66} (hl : a.length ≤ 140737488355328) (hk : a.length < k) : laws_eqSumS.f k a b = some (decide (a = b)) := by
  unfold laws_eqSumS.f
  by_cases h : a.length = b.length
  · rw [if_pos (by omega)]
    exact laws_eqSumS_l a b h hl a.length k 0 (by omega) (by omega) hk
  · rw [if_neg (by omega)]
    have : a ≠ b := fun e => h (by rw [e])
    simp [this]

theorem laws_markSumS_l (c : Int) (n : Nat) (hc : 0 ≤ c) (hl : c + 2 * n ≤ 4611686018427387904) (d : Nat) : ∀ (k : Nat) (x : List S66) (i : Nat), x.length = n → i ≤ n → n - i = d → d < k →
    (∀ j, j < i → x[j]? = (toSs (markS c n))[j]?) → laws_markSumS.l0 k x (c + 2 * (i : Int)) (i : Int) = some (c + 2 * (n : Int), toSs (markS c n)) := by
  have hml : (toSs (markS c n)).length = n := by rw [toSs_length, markS_length]
  induction d with
  | zero =>
    intro k x i hx hi hd hk hj
    obtain ⟨k, rfl⟩ : ∃ m, k = m + 1 := ⟨k - 1, by omega⟩
    simp only [laws_markSumS.l0]
    rw [if_neg (by omega), ext_all hx hml (fun j h => hj j (by omega)), show i = n from by omega]
  | succ d ih =>
    intro k x i hx hi hd hk hj
    obtain ⟨k, rfl⟩ : ∃ m, k = m + 1 := ⟨k - 1, by omega⟩
    simp only [laws_markSumS.l0]
    rw [if_pos (by omega), if_pos (by omega), Option.bind_some, wnat (by omega), w64 (x := c + 2 * (i : Int) + 1) (by omega) (by omega), w64 (x := c + 2 * (i : Int) + 1 + 1) (by omega) (by omega), show c + 2 * (i : Int) + 1 + 1 = c + 2 * ((i + 1 : Nat) : Int) from by omega, Int.toNat_natCast, rd_S (l := x) (i := i) (by omega), rd_S (i := i) (by rw [List.length_set]; omega), List.set_set, List.getElem_set_self]
    refine ih k _ (i + 1) (by simp [hx]) (by omega) (by omega) (by omega) (set_step (by omega) hj ?_)
    simp [toSs, markS_get c n i (by omega), toS]
theorem laws_markSumS_v {k : Nat} {x : List S66} {c : Int} (hc : 0 ≤ c) (hl : c + 2 * x.length ≤ 4611686018427387904) (hk : x.length < k) : laws_markSumS.f k x c = some (c + 2 * (x.length : Int), toSs (markS c x.length)) := by
  unfold laws_markSumS.f
  have h := laws_markSumS_l c x.length hc hl x.length k x 0 rfl (by omega) (by omega) hk (fun j h => by omega)
  rw [show c + 2 * ((0 : Nat) : Int) = c from by omega] at h
  exact h

theorem laws_eqManifest_v {k : Nat} {a b c a' b' c' : Int} {l l' : List S66} (hl : l.length ≤ 140737488355328) (hk : l.length < k) : laws_eqManifest.f k a b c l a' b' c' l' = some (decide ((a, b, c, l) = (a', b', c', l'))) := by
  unfold laws_eqManifest.f
  rw [laws_eqSumS_v hl hk]
  by_cases h1 : a = a'
  · by_cases h2 : b = b'
    · by_cases h3 : c = c'
      · by_cases h4 : l = l'
        · simp [h1, h2, h3, h4]
        · simp [h1, h2, h3, h4]
      · simp [h1, h2, h3]
    · simp [h1, h2]
  · simp [h1]

theorem laws_markManifest_v {k : Nat} {a b d : Int} {x : List S66} {c : Int} (hc : 0 ≤ c) (hl : c + 2 * x.length ≤ 4611686018427387904) (hk : x.length < k) : laws_markManifest.f k a b d x c = some (c + 2 * (x.length : Int), toSs (markS c x.length)) := by
  unfold laws_markManifest.f
  rw [laws_markSumS_v hc hl hk]; rfl

theorem laws_toSum_v (a b : Int) : laws_toSum.f a b = some (a, b) := rfl

theorem spec_FindSum_l {l : List Int} (hb : Byt l) (hl : l.length ≤ 1000000000000) (w s : Int) (n : Nat) (hn : 1 ≤ n) (hn6 : n ≤ 6) (hnl : n ≤ l.length) (d : Nat) : ∀ (k i : Nat), i + d = l.length + 1 - n → d + 30 < k →
    spec_FindSum.l0 k l (n : Int) (windows l (n : Int)) (i : Int) w s = some (findFrom l w s n d i) := by
  have hwl : (windows l (n : Int)).length = l.length - n + 1 := by unfold windows; rw [if_pos (by omega)]; simp
  induction d with
  | zero =>
    intro k i hi hk
    obtain ⟨k, rfl⟩ : ∃ m, k = m + 1 := ⟨k - 1, by omega⟩
    simp only [spec_FindSum.l0]
    rw [if_neg (by omega)]; rfl
  | succ d ih =>
    intro k i hi hk
    obtain ⟨k, rfl⟩ : ∃ m, k = m + 1 := ⟨k - 1, by omega⟩
    simp only [spec_FindSum.l0]
    have hg : rd (windows l (n : Int)) (i : Int) = weakOf (win l n i) := by
      rw [rd_at (by omega)]
      unfold windows
      simp only [if_pos (show 1 ≤ (n : Int) ∧ (n : Int) ≤ (l.length : Int) from by omega), Int.toNat_natCast]
      simp
    have hwb : Byt (win l n i) := byt_take (byt_drop hb i) n
    have hwn : (win l n i).length = n := win_length (by omega)
    rw [if_pos (by omega), if_pos (by omega), hg, w64 (x := (i : Int) + (n : Int)) (by omega) (by omega), wnat (by omega), findFrom, ih k (i + 1) (by omega) (by omega)]
    by_cases hw : weakOf (win l n i) = w
    · rw [if_pos hw, if_pos (by omega), if_pos (by omega), show ((i : Int) + (n : Int)).toNat = i + n from by omega, Int.toNat_natCast, take_drop_win, spec_SumOf_v hwb (by omega), Option.bind_some]
      by_cases h : sumOf (win l n i) = (w, s)
      · rw [if_pos h, h]; simp
      · rw [if_neg h, if_neg]
        intro e
        simp only [Bool.and_eq_true, beq_iff_eq] at e
        exact h (Prod.ext e.1 e.2)
    · rw [if_neg hw, if_neg]
      intro e
      apply hw
      have := congrArg Prod.fst e
      unfold sumOf at this
      rw [if_pos (by omega)] at this
      exact this
theorem spec_FindSum_v {k : Nat} {l : List Int} (hb : Byt l) (hl : l.length ≤ 1000000000000) (w s n : Int) (hk : l.length + 50 < k) : spec_FindSum.f k l w s n = some (findSum l w s n) := by
  unfold spec_FindSum.f findSum
  rw [spec_l1In_v, Option.bind_some]
  by_cases h : 1 ≤ n ∧ n ≤ 6
  · rw [decide_eq_true h, if_pos rfl, if_pos h, spec_Windows_v hb hl n (by omega), Option.bind_some]
    obtain ⟨m, rfl⟩ := Int.eq_ofNat_of_zero_le (by omega : 0 ≤ n)
    rw [Int.toNat_natCast]
    by_cases hm : m ≤ l.length
    · exact spec_FindSum_l hb hl w s m (by omega) (by omega) hm _ k 0 (by omega) (by omega)
    · have e : windows l (m : Int) = [] := by unfold windows; rw [if_neg (by omega)]
      obtain ⟨k, rfl⟩ : ∃ m, k = m + 1 := ⟨k - 1, by omega⟩
      simp only [spec_FindSum.l0, e]
      rw [if_neg (by simp), show l.length + 1 - m = 0 from by omega]; rfl
  · rw [decide_eq_false h, if_neg (by decide), if_neg h]

theorem impl_FindSum_l {l : List Int} (hb : Byt l) (hl : l.length ≤ 1000000000000) (w s : Int) (n : Nat) (hn : 1 ≤ n) (hn6 : n ≤ 6) (d : Nat) : ∀ (k i : Nat), i ≤ l.length + 1 - n → i + d = l.length + 1 - n → d + 30 < k →
    impl_FindSum.l0 k l (n : Int) (i : Int) w s = some (findFrom l w s n d i) := by
  induction d with
  | zero =>
    intro k i hi0 hi hk
    obtain ⟨k, rfl⟩ : ∃ m, k = m + 1 := ⟨k - 1, by omega⟩
    simp only [impl_FindSum.l0]
    rw [w64 (x := (i : Int) + (n : Int)) (by omega) (by omega), if_neg (by omega)]; rfl
  | succ d ih =>
    intro k i hi0 hi hk
    obtain ⟨k, rfl⟩ : ∃ m, k = m + 1 := ⟨k - 1, by omega⟩
    simp only [impl_FindSum.l0]
    have hwb : Byt (win l n i) := byt_take (byt_drop hb i) n
    rw [w64 (x := (i : Int) + (n : Int)) (by omega) (by omega), if_pos (by omega), if_pos (by omega), if_pos (by omega), show ((i : Int) + (n : Int)).toNat = i + n from by omega, Int.toNat_natCast, take_drop_win, impl_SumOf_v hwb (by omega), Option.bind_some, wnat (by omega), findFrom, ih k (i + 1) (by omega) (by omega) (by omega)]
    by_cases h : sumOf (win l n i) = (w, s)
    · rw [if_pos h, h]; simp
    · rw [if_neg h, if_neg]
      intro e
      simp only [Bool.and_eq_true, beq_iff_eq] at e
      exact h (Prod.ext e.1 e.2)
theorem impl_FindSum_v {k : Nat} {l : List Int} (hb : Byt l) (hl : l.length ≤ 1000000000000) (w s n : Int) (hk : l.length + 50 < k) : impl_FindSum.f k l w s n = some (findSum l w s n) := by
  unfold impl_FindSum.f findSum
  rw [impl_within_v, Option.bind_some]
  by_cases h : 1 ≤ n ∧ n ≤ 6
  · rw [decide_eq_true h, if_pos rfl, if_pos h]
    obtain ⟨m, rfl⟩ := Int.eq_ofNat_of_zero_le (by omega : 0 ≤ n)
    rw [Int.toNat_natCast]
    exact impl_FindSum_l hb hl w s m (by omega) (by omega) _ k 0 (by omega) (by omega) (by omega)
  · rw [decide_eq_false h, if_neg (by decide), if_neg h]

theorem laws_szSumS_v {l : List S95} {left : Int} (h0 : 0 ≤ left) (h1 : left ≤ 1048576) (hl : l.length ≤ maxLen) : laws_szSumS.f l left = some (if left - (l.length : Int) < 0 then -1 else left - (l.length : Int)) := by
  unfold laws_szSumS.f
  simp only [maxLen] at hl
  rw [w64 (by omega) (by omega)]
  by_cases h : left - (l.length : Int) < 0
  · rw [if_pos h, if_pos h]
  · rw [if_neg h, if_neg h]

theorem laws_szManifest_v (a b c : Int) {l : List S95} {left : Int} (h0 : 0 ≤ left) (h1 : left ≤ 1048576) (hl : l.length ≤ maxLen) : laws_szManifest.f a b c l left = some (if left - (l.length : Int) < 0 then -1 else left - (l.length : Int)) := by
  unfold laws_szManifest.f
  rw [laws_szSumS_v h0 h1 hl, Option.bind_some]
  by_cases h : left - (l.length : Int) < 0
  · rw [if_pos h, if_pos (by omega)]
  · rw [if_neg h, if_neg h]

theorem laws_toSumS_l (l : List S95) (hl : l.length ≤ 1048576) (d : Nat) : ∀ (k : Nat) (out : List S66) (i : Nat), out.length = l.length → i ≤ l.length → l.length - i = d → d < k →
    (∀ j, j < i → out[j]? = (toSs (ofLs l))[j]?) → laws_toSumS.l0 k l out (i : Int) = some (toSs (ofLs l)) := by
  have hml : (toSs (ofLs l)).length = l.length := by rw [toSs_length, ofLs_length]
  induction d with
  | zero =>
    intro k out i ho hi hd hk hj
    obtain ⟨k, rfl⟩ : ∃ m, k = m + 1 := ⟨k - 1, by omega⟩
    simp only [laws_toSumS.l0]
    rw [if_neg (by omega), ext_all ho hml (fun j h => hj j (by omega))]
  | succ d ih =>
    intro k out i ho hi hd hk hj
    obtain ⟨k, rfl⟩ : ∃ m, k = m + 1 := ⟨k - 1, by omega⟩
    simp only [laws_toSumS.l0]
    rw [if_pos (by omega), if_pos (by omega), laws_toSum_v, Option.bind_some, if_pos (by omega), wnat (by omega), rd_L (by omega : i < l.length), Int.toNat_natCast]
    refine ih k _ (i + 1) (by simp [ho]) (by omega) (by omega) (by omega) (set_step (by omega) hj ?_)
    rw [List.getElem?_eq_getElem (by omega)]
    simp [toSs, ofLs, ofL, toS]
theorem laws_toSumS_v {k : Nat} {l : List S95} (hl : l.length ≤ 1048576) (hk : l.length < k) : laws_toSumS.f k l = some (toSs (ofLs l)) := by
  unfold laws_toSumS.f
  rw [if_pos (by omega), if_pos (by omega)]
  exact laws_toSumS_l l hl l.length k _ 0 (by simp) (by omega) (by omega) hk (fun j h => by omega)

theorem laws_toManifest_v {k : Nat} (a b c : Int) {l : List S95} (hl : l.length ≤ 1048576) (hk : l.length < k) : laws_toManifest.f k a b c l = some (a, b, c, toSs (ofLs l)) := by
  unfold laws_toManifest.f
  rw [laws_toSumS_v hl hk]; rfl

def placeOf (l : List Int) (b c : Int) (m : List S66) (i : Int) : Int :=
  if 0 ≤ i ∧ i < (m.length : Int) ∧ (spanOf b c i).2 ≠ 0 then findSum l (rd_T66 m i).f0 (rd_T66 m i).f1 (spanOf b c i).2 else -1
theorem spanOf_nn (b c i : Int) (h : (spanOf b c i).2 ≠ 0) : 0 ≤ i := by
  unfold spanOf at h
  by_cases hc : 0 ≤ i ∧ i ≤ blocks b c - 1
  · exact hc.1
  · rw [if_neg hc] at h; simp at h
theorem spec_PlaceOf_v {k : Nat} {l : List Int} (hb : Byt l) (hl : l.length ≤ 1000000000000) (a b c : Int) (m : List S66) (i : Int) (hk : l.length + 50 < k) :
    spec_PlaceOf.f k l a b c m i = some (placeOf l b c m i) := by
  unfold spec_PlaceOf.f placeOf
  rw [spec_SpanOf_v, Option.bind_some]
  by_cases h0 : (spanOf b c i).2 = 0
  · rw [if_pos h0, if_neg (fun g => g.2.2 h0)]
  · have hi := spanOf_nn b c i h0
    rw [if_neg h0]
    by_cases h1 : i ≥ (m.length : Int)
    · rw [if_pos h1, if_neg (by omega)]
    · rw [if_neg h1, if_pos hi, if_pos (by omega), if_pos ⟨hi, by omega, h0⟩, spec_FindSum_v hb hl _ _ _ hk]; rfl

theorem findSum_zero (l : List Int) (w s : Int) : findSum l w s 0 = -1 := by unfold findSum; rw [if_neg (by omega)]
theorem impl_PlaceOf_v {k : Nat} {l : List Int} (hb : Byt l) (hl : l.length ≤ 1000000000000) (a b c : Int) (m : List S66) (hm : m.length ≤ 140737488355328) (i : Int) (hk : l.length + 50 < k) :
    impl_PlaceOf.f k l a b c m i = some (placeOf l b c m i) := by
  unfold impl_PlaceOf.f placeOf
  rw [impl_SpanOf_v, Option.bind_some, w64 (x := (m.length : Int) - 1) (by omega) (by omega), impl_within_v, Option.bind_some]
  by_cases h : 0 ≤ i ∧ i ≤ (m.length : Int) - 1
  · rw [decide_eq_true h, if_pos rfl, if_pos h.1, if_pos (by omega), impl_FindSum_v hb hl _ _ _ hk, Option.bind_some]
    by_cases h0 : (spanOf b c i).2 = 0
    · rw [if_neg (fun g => g.2.2 h0), h0, findSum_zero]
    · rw [if_pos ⟨h.1, by omega, h0⟩]
  · rw [decide_eq_false h, if_neg (by decide), if_neg (by omega)]

def places (l : List Int) (b c : Int) (m : List S66) : List Int := (List.range m.length).map fun (j : Nat) => placeOf l b c m (j : Int)
theorem places_length (l : List Int) (b c : Int) (m : List S66) : (places l b c m).length = m.length := by simp [places]
theorem range_map_snoc (f : Nat → Int) (i : Nat) : (List.range i).map f ++ [f i] = (List.range (i + 1)).map f := by rw [List.range_succ, List.map_append]; rfl
theorem spec_Places_l {l : List Int} (hb : Byt l) (hl : l.length ≤ 1000000000000) (a b c : Int) (m : List S66) (hm : m.length ≤ 1000000000000) (d : Nat) : ∀ (k : Nat) (i : Nat), i ≤ m.length → m.length - i = d → d + l.length + 60 < k →
    spec_Places.l0 k l ((List.range i).map fun (j : Nat) => placeOf l b c m (j : Int)) (i : Int) a b c m = some (places l b c m) := by
  induction d with
  | zero =>
    intro k i hi hd hk
    obtain ⟨k, rfl⟩ : ∃ m, k = m + 1 := ⟨k - 1, by omega⟩
    obtain rfl : i = m.length := by omega
    simp only [spec_Places.l0]
    rw [if_neg (by omega)]; rfl
  | succ d ih =>
    intro k i hi hd hk
    obtain ⟨k, rfl⟩ : ∃ m, k = m + 1 := ⟨k - 1, by omega⟩
    simp only [spec_Places.l0]
    rw [if_pos (by omega), spec_PlaceOf_v hb hl _ _ _ _ _ (by omega), Option.bind_some, if_pos (by simp; omega), wnat (by omega)]
    have e := range_map_snoc (fun (j : Nat) => placeOf l b c m (j : Int)) i
    rw [e]
    exact ih k (i + 1) (by omega) (by omega) (by omega)
theorem spec_Places_v {k : Nat} {l : List Int} (hb : Byt l) (hl : l.length ≤ 1000000000000) (a b c : Int) (m : List S66) (hm : m.length ≤ 1000000000000) (hk : m.length + l.length + 60 < k) :
    spec_Places.f k l a b c m = some (places l b c m) := by
  unfold spec_Places.f
  exact spec_Places_l hb hl a b c m hm m.length k 0 (by omega) (by omega) (by omega)

theorem impl_Places_l {l : List Int} (hb : Byt l) (hl : l.length ≤ 1000000000000) (a b c : Int) (m : List S66) (hm : m.length ≤ 1000000000000) (d : Nat) : ∀ (k : Nat) (i : Nat), i ≤ m.length → m.length - i = d → d + l.length + 60 < k →
    impl_Places.l0 k l ((List.range i).map fun (j : Nat) => placeOf l b c m (j : Int)) (m.length : Int) (i : Int) a b c m = some (places l b c m) := by
  induction d with
  | zero =>
    intro k i hi hd hk
    obtain ⟨k, rfl⟩ : ∃ m, k = m + 1 := ⟨k - 1, by omega⟩
    obtain rfl : i = m.length := by omega
    simp only [impl_Places.l0]
    rw [if_neg (by omega)]; rfl
  | succ d ih =>
    intro k i hi hd hk
    obtain ⟨k, rfl⟩ : ∃ m, k = m + 1 := ⟨k - 1, by omega⟩
    simp only [impl_Places.l0]
    rw [if_pos (by omega), impl_PlaceOf_v hb hl _ _ _ _ (by omega) _ (by omega), Option.bind_some, if_pos (by simp; omega), wnat (by omega)]
    have e := range_map_snoc (fun (j : Nat) => placeOf l b c m (j : Int)) i
    rw [e]
    exact ih k (i + 1) (by omega) (by omega) (by omega)
theorem impl_Places_v {k : Nat} {l : List Int} (hb : Byt l) (hl : l.length ≤ 1000000000000) (a b c : Int) (m : List S66) (hm : m.length ≤ 1000000000000) (hk : m.length + l.length + 60 < k) :
    impl_Places.f k l a b c m = some (places l b c m) := by
  unfold impl_Places.f
  exact impl_Places_l hb hl a b c m hm m.length k 0 (by omega) (by omega) (by omega)

theorem FnExactPlaces (b : List Int) (c0 c1 c2 : Int) (l : List S95) (hm' : b.length ≤ maxLen) (hw : ∀ n ∈ b, (Lit.int .u8 n).wf = true) (hm : l.length ≤ maxLen) : ∃ k, laws_FnExactPlaces.f k b c0 c1 c2 l = some true := by
  have hb : Byt b := fun x hx => wf_u8 (hw x hx)
  refine exists_ge 3048880 _ (fun k hk => ?_)
  unfold laws_FnExactPlaces.f
  by_cases hB : (b.length : Int) > 1048576
  · rw [if_pos hB]
  · rw [if_neg hB, laws_szManifest_v _ _ _ (by omega) (by omega) hm, Option.bind_some]
    by_cases hbig : (1048576 : Int) - (l.length : Int) < 0
    · rw [if_pos hbig, if_pos (by omega)]
    · rw [if_neg hbig, if_neg hbig]
      have ht : (toSs (ofLs l)).length = l.length := by rw [toSs_length, ofLs_length]
      have hs := fun x y => places_length b x y (toSs (ofLs l))
      have h1 := fun (j : Nat) (x y z : Int) q (hq : q.length ≤ 1000000000000) (hj : q.length + b.length + 60 < j) => spec_Places_v (k := j) hb (by omega) x y z q hq hj
      have h2 := fun (j : Nat) (x y z : Int) q (hq : q.length ≤ 1000000000000) (hj : q.length + b.length + 60 < j) => impl_Places_v (k := j) hb (by omega) x y z q hq hj
      have hs' := hs c1 c2
      obtain ⟨k, rfl⟩ : ∃ m, k = m + 3 := ⟨k - 3, by omega⟩
      have n1 : ¬ (1 + (b.length : Int) + 2 * ((toSs (ofLs l)).length : Int) < 0) := by omega
      have n2 : ¬ (1 + ((places b c1 c2 (toSs (ofLs l))).length : Int) < 0) := by omega
      simp (disch := omega) only [laws_toManifest_v, laws_toByteS_v, h1, h2, laws_eqManifest_v, laws_eqByteS_v, laws_eqIntS_v, laws_markByteS_v, laws_markManifest_v, laws_markIntS_v, laws_heldIntS_v, n1, n2, Option.bind_some, decide_true, if_true, if_false, bne_self_eq_false, Bool.false_eq_true, Bool.not_true, Bool.not_false]
      simp only [laws_FnExactPlaces.j0, Bool.false_eq_true, if_false]
      simp (disch := omega) only [laws_toManifest_v, laws_toByteS_v, h1, h2, laws_eqManifest_v, laws_eqByteS_v, laws_eqIntS_v, laws_markByteS_v, laws_markManifest_v, laws_markIntS_v, laws_heldIntS_v, n1, n2, Option.bind_some, decide_true, if_true, if_false, bne_self_eq_false, Bool.false_eq_true, Bool.not_true, Bool.not_false]

end Go.Proofs.Ytdkgcloempbgpaa.Pure
