/- SameMan returns what the reference's SameMan returns, in memory of its own, and leaves its arguments as they were, for all arguments; no condition. -/
import Derived.Test.YtbhpnckebecffaaPFnExactSameManx4
import Derived.Test.YtbhpnckebecffaaLib
set_option linter.unusedVariables false
set_option linter.unusedSimpArgs false
namespace Go.Proofs.Ytbhpnckebecffaa.Pure
open Go.RowKit Go.Proofs.Ytbhpnckebecffaa.PFnExactSameMan Go.Proofs.YtbhpnckebecffaaW.PrintWords Go.Proofs.YtbhpnckebecffaaW.PrintLast Go.Proofs.YtbhpnckebecffaaW.PrintMore Go.Proofs.Ytbhpnckebecffaa.Lib

instance : DecidableEq S30 := fun a b => decidable_of_iff (a.f0 = b.f0 ∧ a.f1 = b.f1) ⟨fun h => by cases a; cases b; simp_all, fun h => by rw [h]; exact ⟨rfl, rfl⟩⟩
def toS (p : Int × Int) : S30 := ⟨p.1, p.2⟩
def toSs (l : List (Int × Int)) : List S30 := l.map toS
theorem toS_inj {p q : Int × Int} (h : toS p = toS q) : p = q := by
  have h1 := congrArg S30.f0 h
  have h2 := congrArg S30.f1 h
  exact Prod.ext h1 h2
theorem toSs_inj {l m : List (Int × Int)} (h : toSs l = toSs m) : l = m := (List.map_inj_right (fun p q hq => toS_inj hq)).1 h
theorem toSs_length (l : List (Int × Int)) : (toSs l).length = l.length := by simp [toSs]
theorem toSs_onto (l : List S30) : ∃ m, l = toSs m ∧ m.length = l.length := ⟨l.map fun s => (s.f0, s.f1), by
  induction l with
  | nil => rfl
  | cons s l ih => simp only [List.map_cons, toSs] at ih ⊢; rw [← ih]; rfl, by simp⟩
theorem rd_S {l : List S30} {i : Nat} (h : i < l.length) : rd_T30 l (i : Int) = l[i] := by
  unfold rd_T30
  rw [Int.toNat_natCast, List.getD_eq_getElem?_getD, List.getElem?_eq_getElem h]; rfl
theorem drop_eq_iffS {a b : List S30} {i : Nat} (ha : i < a.length) (hb : i < b.length) : (a.drop i = b.drop i) ↔ (a[i] = b[i] ∧ a.drop (i + 1) = b.drop (i + 1)) := by
  rw [List.drop_eq_getElem_cons ha, List.drop_eq_getElem_cons hb, List.cons.injEq]
theorem S_eq_iff {a b : S30} : (a.f0, a.f1) = (b.f0, b.f1) ↔ a = b := by cases a; cases b; simp

def ofL (s : S58) : Int × Int := (s.f0, s.f1)
def ofLs (l : List S58) : List (Int × Int) := l.map ofL
theorem ofLs_length (l : List S58) : (ofLs l).length = l.length := by simp [ofLs]
theorem rd_L {l : List S58} {i : Nat} (h : i < l.length) : rd_T58 l (i : Int) = l[i] := by
  unfold rd_T58
  rw [Int.toNat_natCast, List.getD_eq_getElem?_getD, List.getElem?_eq_getElem h]; rfl

theorem laws_eqSum_v (a b c d : Int) : laws_eqSum.f a b c d = some (decide ((a, b) = (c, d))) := by
  unfold laws_eqSum.f
  by_cases h : a = c
  · by_cases h' : b = d
    · rw [if_pos h, if_pos h']; simp [h, h']
    · rw [if_pos h, if_neg h']; simp [h']
  · rw [if_neg h]; simp [h]

theorem laws_eqSumS_l (a b : List S30) (hab : a.length = b.length) (hl : a.length ≤ 140737488355328) (d : Nat) : ∀ (k : Nat) (i : Nat), i ≤ a.length → a.length - i = d → d < k →
    laws_eqSumS.l0 k a b (i : Int) = some (decide (a.drop i = b.drop i)) := by
  induction d with
  | zero =>
    intro k i hi hd hk
    obtain ⟨k, rfl⟩ : ∃ m, k = m + 1 := ⟨k - 1, by omega⟩
    simp only [laws_eqSumS.l0]
    rw [if_neg (by omega)]
    have e : a.drop i = b.drop i := by rw [List.drop_eq_nil_of_le (by omega), List.drop_eq_nil_of_le (by omega)]
    rw [decide_eq_true e]
  | succ d ih =>
    intro k i hi hd hk
    obtain ⟨k, rfl⟩ : ∃ m, k = m + 1 := ⟨k - 1, by omega⟩
    simp only [laws_eqSumS.l0]
    rw [if_pos (by omega), if_pos (by omega), if_pos (by omega), wnat (by omega), rd_S (by omega : i < a.length), rd_S (by omega : i < b.length), ih k (i + 1) (by omega) (by omega) (by omega), laws_eqSum_v, Option.bind_some]
    have e := drop_eq_iffS (a := a) (b := b) (i := i) (by omega) (by omega)
    by_cases h : a[i]'(by omega) = b[i]'(by omega)
    · rw [if_pos (decide_eq_true (S_eq_iff.2 h))]; simp only [e, h, true_and]
    · rw [if_neg (fun e2 => h (S_eq_iff.1 (of_decide_eq_true e2)))]; simp only [e, h, false_and, decide_false]
theorem laws_eqSumS_v {k : Nat} {a b : List S30} (hl : a.length ≤ 140737488355328) (hk : a.length < k) : laws_eqSumS.f k a b = some (decide (a = b)) := by
  unfold laws_eqSumS.f
  by_cases h : a.length = b.length
  · rw [if_pos (by omega)]
    exact laws_eqSumS_l a b h hl a.length k 0 (by omega) (by omega) hk
  · rw [if_neg (by omega)]
    have : a ≠ b := fun e => h (by rw [e])
    simp [this]

theorem laws_eqManifest_v {k : Nat} {a b c a' b' c' : Int} {l l' : List S30} (hl : l.length ≤ 140737488355328) (hk : l.length < k) : laws_eqManifest.f k a b c l a' b' c' l' = some (decide ((a, b, c, l) = (a', b', c', l'))) := by
  unfold laws_eqManifest.f
  rw [laws_eqSumS_v hl hk]
  by_cases h1 : a = a'
  · by_cases h2 : b = b'
    · by_cases h3 : c = c'
      · by_cases h4 : l = l'
        · simp [h1, h2, h3, h4]
        · simp [h1, h2, h3, h4]
      · simp [h1, h2, h3]
    · simp [h1, h2]
  · simp [h1]

theorem laws_toSum_v (a b : Int) : laws_toSum.f a b = some (a, b) := rfl

theorem laws_szSumS_v {l : List S58} {left : Int} (h0 : 0 ≤ left) (h1 : left ≤ 1048576) (hl : l.length ≤ maxLen) : laws_szSumS.f l left = some (if left - (l.length : Int) < 0 then -1 else left - (l.length : Int)) := by
  unfold laws_szSumS.f
  simp only [maxLen] at hl
  rw [w64 (by omega) (by omega)]
  by_cases h : left - (l.length : Int) < 0
  · rw [if_pos h, if_pos h]
  · rw [if_neg h, if_neg h]

theorem laws_szManifest_v (a b c : Int) {l : List S58} {left : Int} (h0 : 0 ≤ left) (h1 : left ≤ 1048576) (hl : l.length ≤ maxLen) : laws_szManifest.f a b c l left = some (if left - (l.length : Int) < 0 then -1 else left - (l.length : Int)) := by
  unfold laws_szManifest.f
  rw [laws_szSumS_v h0 h1 hl, Option.bind_some]
  by_cases h : left - (l.length : Int) < 0
  · rw [if_pos h, if_pos (by omega)]
  · rw [if_neg h, if_neg h]

theorem laws_toSumS_l (l : List S58) (hl : l.length ≤ 1048576) (d : Nat) : ∀ (k : Nat) (out : List S30) (i : Nat), out.length = l.length → i ≤ l.length → l.length - i = d → d < k →
    (∀ j, j < i → out[j]? = (toSs (ofLs l))[j]?) → laws_toSumS.l0 k l out (i : Int) = some (toSs (ofLs l)) := by
  have hml : (toSs (ofLs l)).length = l.length := by rw [toSs_length, ofLs_length]
  induction d with
  | zero =>
    intro k out i ho hi hd hk hj
    obtain ⟨k, rfl⟩ : ∃ m, k = m + 1 := ⟨k - 1, by omega⟩
    simp only [laws_toSumS.l0]
    rw [if_neg (by omega), ext_all ho hml (fun j h => hj j (by omega))]
  | succ d ih =>
    intro k out i ho hi hd hk hj
    obtain ⟨k, rfl⟩ : ∃ m, k = m + 1 := ⟨k - 1, by omega⟩
    simp only [laws_toSumS.l0]
    rw [if_pos (by omega), if_pos (by omega), laws_toSum_v, Option.bind_some, if_pos (by omega), wnat (by omega), rd_L (by omega : i < l.length), Int.toNat_natCast]
    refine ih k _ (i + 1) (by simp [ho]) (by omega) (by omega) (by omega) (set_step (by omega) hj ?_)
    rw [List.getElem?_eq_getElem (by omega)]
    simp [toSs, ofLs, ofL, toS]
theorem laws_toSumS_v {k : Nat} {l : List S58} (hl : l.length ≤ 1048576) (hk : l.length < k) : laws_toSumS.f k l = some (toSs (ofLs l)) := by
  unfold laws_toSumS.f
  rw [if_pos (by omega), if_pos (by omega)]
  exact laws_toSumS_l l hl l.length k _ 0 (by simp) (by omega) (by omega) hk (fun j h => by omega)

theorem laws_toManifest_v {k : Nat} (a b c : Int) {l : List S58} (hl : l.length ≤ 1048576) (hk : l.length < k) : laws_toManifest.f k a b c l = some (a, b, c, toSs (ofLs l)) := by
  unfold laws_toManifest.f
  rw [laws_toSumS_v hl hk]; rfl

theorem spec_l6SameSums_l (a b : List S30) (hab : a.length = b.length) (hl : a.length ≤ 140737488355328) (d : Nat) : ∀ (k : Nat) (i : Nat), i ≤ a.length → a.length - i = d → d < k →
    spec_l6SameSums.l0 k a b (i : Int) = some (decide (a.drop i = b.drop i)) := by
  induction d with
  | zero =>
    intro k i hi hd hk
    obtain ⟨k, rfl⟩ : ∃ m, k = m + 1 := ⟨k - 1, by omega⟩
    simp only [spec_l6SameSums.l0]
    rw [if_neg (by omega)]
    have e : a.drop i = b.drop i := by rw [List.drop_eq_nil_of_le (by omega), List.drop_eq_nil_of_le (by omega)]
    rw [decide_eq_true e]
  | succ d ih =>
    intro k i hi hd hk
    obtain ⟨k, rfl⟩ : ∃ m, k = m + 1 := ⟨k - 1, by omega⟩
    simp only [spec_l6SameSums.l0]
    rw [if_pos (by omega), if_pos (by omega), if_pos (by omega), wnat (by omega), rd_S (by omega : i < a.length), rd_S (by omega : i < b.length), ih k (i + 1) (by omega) (by omega) (by omega)]
    have e := drop_eq_iffS (a := a) (b := b) (i := i) (by omega) (by omega)
    by_cases h : a[i]'(by omega) = b[i]'(by omega)
    · rw [if_neg (by rw [h]; simp)]; simp only [e, h, true_and]
    · rw [if_pos]
      · simp only [e, h, false_and, decide_false]
      · have h' : ¬ ((a[i]'(by omega)).f0 = (b[i]'(by omega)).f0 ∧ (a[i]'(by omega)).f1 = (b[i]'(by omega)).f1) := fun g => h (S_eq_iff.1 (Prod.ext g.1 g.2))
        by_cases g : (a[i]'(by omega)).f0 = (b[i]'(by omega)).f0
        · have g2 : ¬ (a[i]'(by omega)).f1 = (b[i]'(by omega)).f1 := fun z => h' ⟨g, z⟩
          simp [g, g2]
        · simp [g]
theorem spec_l6SameSums_v {k : Nat} {a b : List S30} (hl : a.length ≤ 140737488355328) (hk : a.length < k) : spec_l6SameSums.f k a b = some (decide (a = b)) := by
  unfold spec_l6SameSums.f
  by_cases h : a.length = b.length
  · rw [if_pos (by omega)]
    exact spec_l6SameSums_l a b h hl a.length k 0 (by omega) (by omega) hk
  · rw [if_neg (by omega)]
    have : a ≠ b := fun e => h (by rw [e])
    simp [this]

theorem impl_Sum_l (a b : List S30) (hab : a.length = b.length) (hl : a.length ≤ 140737488355328) (d : Nat) : ∀ (k : Nat) (i : Nat), i ≤ a.length → a.length - i = d → d < k →
    impl_Sum.l0 k a b (a.length : Int) (i : Int) = some (decide (a.drop i = b.drop i)) := by
  induction d with
  | zero =>
    intro k i hi hd hk
    obtain ⟨k, rfl⟩ : ∃ m, k = m + 1 := ⟨k - 1, by omega⟩
    simp only [impl_Sum.l0]
    rw [if_neg (by omega)]
    have e : a.drop i = b.drop i := by rw [List.drop_eq_nil_of_le (by omega), List.drop_eq_nil_of_le (by omega)]
    rw [decide_eq_true e]
  | succ d ih =>
    intro k i hi hd hk
    obtain ⟨k, rfl⟩ : ∃ m, k = m + 1 := ⟨k - 1, by omega⟩
    simp only [impl_Sum.l0]
    rw [if_pos (by omega), if_pos (by omega), if_pos (by omega), if_pos (by omega), wnat (by omega), rd_S (by omega : i < a.length), rd_S (by omega : i < b.length), ih k (i + 1) (by omega) (by omega) (by omega)]
    have e := drop_eq_iffS (a := a) (b := b) (i := i) (by omega) (by omega)
    by_cases h : a[i]'(by omega) = b[i]'(by omega)
    · rw [if_neg (by rw [h]; simp)]; simp only [e, h, true_and]
    · rw [if_pos]
      · simp only [e, h, false_and, decide_false]
      · have h' : ¬ ((a[i]'(by omega)).f0 = (b[i]'(by omega)).f0 ∧ (a[i]'(by omega)).f1 = (b[i]'(by omega)).f1) := fun g => h (S_eq_iff.1 (Prod.ext g.1 g.2))
        by_cases g : (a[i]'(by omega)).f0 = (b[i]'(by omega)).f0
        · have g2 : ¬ (a[i]'(by omega)).f1 = (b[i]'(by omega)).f1 := fun z => h' ⟨g, z⟩
          simp [g, g2]
        · simp [g]
theorem impl_Sum_v {k : Nat} {a b : List S30} (hl : a.length ≤ 140737488355328) (hk : a.length < k) : impl_Sum.f k a b = some (decide (a = b)) := by
  unfold impl_Sum.f
  by_cases h : a.length = b.length
  · rw [if_pos (by omega)]
    exact impl_Sum_l a b h hl a.length k 0 (by omega) (by omega) hk
  · rw [if_neg (by omega)]
    have : a ≠ b := fun e => h (by rw [e])
    simp [this]

theorem spec_SameMan_v {k : Nat} {a b c a' b' c' : Int} {l l' : List S30} (hl : l.length ≤ 140737488355328) (hk : l.length < k) : spec_SameMan.f k a b c l a' b' c' l' = some (decide ((a, b, c, l) = (a', b', c', l'))) := by
  unfold spec_SameMan.f
  rw [spec_l6SameSums_v hl hk]
  by_cases h1 : a = a'
  · by_cases h2 : b = b'
    · by_cases h3 : c = c'
      · by_cases h4 : l = l'
        · simp [h1, h2, h3, h4]
        · simp [h1, h2, h3, h4]
      · simp [h1, h2, h3]
    · simp [h1, h2]
  · simp [h1]

theorem impl_SameMan_v {k : Nat} {a b c a' b' c' : Int} {l l' : List S30} (hl : l.length ≤ 140737488355328) (hk : l.length < k) : impl_SameMan.f k a b c l a' b' c' l' = some (decide ((a, b, c, l) = (a', b', c', l'))) := by
  unfold impl_SameMan.f
  rw [impl_Sum_v hl hk]
  by_cases h1 : a = a'
  · by_cases h2 : b = b'
    · by_cases h3 : c = c'
      · by_cases h4 : l = l'
        · simp [h1, h2, h3, h4]
        · simp [h1, h2, h3, h4]
      · simp [h1, h2, h3]
    · simp [h1, h2]
  · simp [h1]

theorem FnExactSameMan (c0 c1 c2 : Int) (l : List S58) (d0 d1 d2 : Int) (m : List S58) (hm : l.length ≤ maxLen) (hm' : m.length ≤ maxLen) : ∃ k, laws_FnExactSameMan.f k c0 c1 c2 l d0 d1 d2 m = some true := by
  refine exists_ge 1048680 _ (fun k hk => ?_)
  unfold laws_FnExactSameMan.f
  rw [laws_szManifest_v _ _ _ (by omega) (by omega) hm, Option.bind_some]
  by_cases hbig : (1048576 : Int) - (l.length : Int) < 0
  · rw [if_pos hbig, if_pos (by omega)]
  · rw [if_neg hbig, if_neg hbig, laws_szManifest_v _ _ _ (by omega) (by omega) hm', Option.bind_some]
    by_cases hbig' : (1048576 : Int) - (l.length : Int) - (m.length : Int) < 0
    · rw [if_pos hbig', if_pos (by omega)]
    · rw [if_neg hbig', if_neg hbig']
      have ht : (toSs (ofLs l)).length = l.length := by rw [toSs_length, ofLs_length]
      have ht' : (toSs (ofLs m)).length = m.length := by rw [toSs_length, ofLs_length]
      simp (disch := omega) only [laws_toManifest_v, spec_SameMan_v, impl_SameMan_v, laws_eqManifest_v, Option.bind_some, decide_true, if_true, if_false, bne_self_eq_false, Bool.false_eq_true, Bool.not_true, Bool.not_false]

end Go.Proofs.Ytbhpnckebecffaa.Pure
