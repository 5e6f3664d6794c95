/- The law FnExactSameBytes is true for all arguments; no condition. -/
import Derived.Test.YtjgnefmlckellaaPFnExactSameBytesx1
import Derived.Test.YtjgnefmlckellaaLib
set_option linter.unusedVariables false
set_option linter.unusedSimpArgs false
namespace Go.Proofs.Ytjgnefmlckellaa.Pure
open Go.RowKit Go.Proofs.Ytjgnefmlckellaa.PFnExactSameBytes Go.Proofs.YtjgnefmlckellaaW.PrintWords Go.Proofs.YtjgnefmlckellaaW.PrintLast Go.Proofs.YtjgnefmlckellaaW.PrintMore Go.Proofs.Ytjgnefmlckellaa.Lib

theorem laws_toByteS_l (l : List Int) (hl : l.length ≤ 140737488351232) (d : Nat) : ∀ (k : Nat) (out : List Int) (i : Nat), out.length = l.length → i ≤ l.length → l.length - i = d → d < k →
    (∀ j, j < i → out[j]? = l[j]?) → laws_toByteS.l0 k l out (i : Int) = some l := by
  induction d with
  | zero =>
    intro k out i ho hi hd hk hj
    obtain ⟨k, rfl⟩ : ∃ m, k = m + 1 := ⟨k - 1, by omega⟩
    simp only [laws_toByteS.l0]
    rw [if_neg (by omega)]
    congr 1
    apply List.ext_getElem?
    intro j
    by_cases hjl : j < i
    · exact hj j hjl
    · rw [List.getElem?_eq_none (by omega), List.getElem?_eq_none (by omega)]
  | succ d ih =>
    intro k out i ho hi hd hk hj
    obtain ⟨k, rfl⟩ : ∃ m, k = m + 1 := ⟨k - 1, by omega⟩
    simp only [laws_toByteS.l0]
    rw [if_pos (by omega), if_pos (by omega), if_pos (by omega), wnat (by omega), rd_at (by omega : i < l.length)]
    refine ih k _ (i + 1) (by simp [ho]) (by omega) (by omega) (by omega) (fun j h => ?_)
    rw [Int.toNat_natCast, List.getElem?_set]
    by_cases e : i = j
    · subst e; rw [if_pos rfl, if_pos (by omega), List.getElem?_eq_getElem]
    · rw [if_neg e]; exact hj j (by omega)
theorem laws_toByteS_v {k : Nat} {l : List Int} (hl : l.length ≤ 140737488351232) (hk : l.length < k) : laws_toByteS.f k l = some l := by
  unfold laws_toByteS.f
  rw [if_pos (by omega), if_pos (by omega)]
  exact laws_toByteS_l l hl l.length k _ 0 (by simp) (by omega) (by omega) hk (fun j h => by omega)

theorem laws_eqByteS_l (a b : List Int) (hab : a.length = b.length) (hl : a.length ≤ 140737488355328) (d : Nat) : ∀ (k : Nat) (i : Nat), i ≤ a.length → a.length - i = d → d < k →
    laws_eqByteS.l0 k a b (i : Int) = some (decide (a.drop i = b.drop i)) := by
  induction d with
  | zero =>
    intro k i hi hd hk
    obtain ⟨k, rfl⟩ : ∃ m, k = m + 1 := ⟨k - 1, by omega⟩
    simp only [laws_eqByteS.l0]
    rw [if_neg (by omega), List.drop_eq_nil_of_le (by omega), List.drop_eq_nil_of_le (by omega)]
    rfl
  | succ d ih =>
    intro k i hi hd hk
    obtain ⟨k, rfl⟩ : ∃ m, k = m + 1 := ⟨k - 1, by omega⟩
    simp only [laws_eqByteS.l0]
    rw [if_pos (by omega), if_pos (by omega), if_pos (by omega), wnat (by omega), rd_at (by omega : i < a.length), rd_at (by omega : i < b.length), ih k (i + 1) (by omega) (by omega) (by omega)]
    have e := drop_eq_iff (a := a) (b := b) (i := i) (by omega) (by omega)
    by_cases h : a[i]'(by omega) = b[i]'(by omega)
    · rw [if_pos h]; simp only [e, h, true_and]
    · rw [if_neg h]; simp only [e, h, false_and, decide_false]
theorem laws_eqByteS_v {k : Nat} {a b : List Int} (hl : a.length ≤ 140737488355328) (hk : a.length < k) : laws_eqByteS.f k a b = some (decide (a = b)) := by
  unfold laws_eqByteS.f
  by_cases h : a.length = b.length
  · rw [if_pos (by omega)]
    exact laws_eqByteS_l a b h hl a.length k 0 (by omega) (by omega) hk
  · rw [if_neg (by omega)]
    have : a ≠ b := fun e => h (by rw [e])
    simp [this]

theorem FnExactSameBytes : laws_FnExactSameBytes.Pure := by
  intro l m hm hr hw hm' hr' hw'
  refine exists_ge 1048580 _ (fun k hk => ?_)
  unfold laws_FnExactSameBytes.f
  by_cases hbig : (l.length : Int) > 1048576
  · rw [if_pos hbig]
  · by_cases hbig' : (m.length : Int) > 1048576
    · rw [if_neg hbig, if_pos hbig']
    · rw [if_neg hbig, if_neg hbig']
      rw [laws_toByteS_v (l := l) (by omega) (by omega), laws_toByteS_v (l := m) (by omega) (by omega)]
      simp only [Option.bind_some, spec_SameBytes.f, impl_SameBytes.f, bytes_Equal.f]
      rw [laws_eqByteS_v (by omega) (by omega), laws_eqByteS_v (by omega) (by omega)]
      simp

end Go.Proofs.Ytjgnefmlckellaa.Pure
