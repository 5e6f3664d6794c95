/- The row of the law FnExactPutMan out of its printed contract and its pure statement (its structs by value opened by hand); no condition. -/
import Derived.Test.YtdkgcloempbgpaaRows
import Derived.Test.YtdkgcloempbgpaaPFnExactPutManx10
import Derived.Test.YtdkgcloempbgpaaPureFnExactPutMan
import Derived.WalkKit
import Derived.ProofKit
import Derived.OpenShut
import Derived.ShutString
import Derived.ChangeOld
import Derived.Below
import Derived.SizedLaws
import Derived.Lib.SmallJoins
import Derived.Deep.Slices
import Derived.Deep.Fields
import Derived.ChangeSame
namespace Go.Proofs.Ytdkgcloempbgpaa.fnExactPutMan
open Go.ChangeShapes Go.WideShapes Go.ChangeAt Go.RowKit Go.Joins Go.Deep Go.Proofs.Ytdkgcloempbgpaa.PFnExactPutMan Go.Proofs.YtdkgcloempbgpaaW.PrintWords
set_option linter.unusedVariables false
set_option linter.unusedSimpArgs false
theorem own : ownKnob Try.prog.godebug = none := by kernel_rfl
theorem laidOut : laidOutB Try.prog = true := by kernel_rfl
theorem open_sums {H : Type} {enc : TypeId × Value → H} {W : World} {n : Nat} {v : Value} {y : DataW H × List MemPlace} (h : DataW.trod enc Try.prog W 0 (fun _ => true) true n 23 [v] = some y) :
    ∃ (A_ : Option Addr) (c_ : Nat) (l : List S95), v = .slice A_ l.length c_ ∧ Kd.C k95 W A_ l.length l ∧ l.length ≤ c_ ∧ l.length ≤ maxLen := by
  rcases open_slice Try.underlying23 h with ⟨hcs, _⟩ | ⟨a, len, cap, m, n1, D, Pl, hcs, _, hl, hm, hmm, _, hf⟩
  · simp only [List.cons.injEq, and_true] at hcs
    exact ⟨none, 0, [], hcs, ⟨rfl, by decide, fun h => absurd h (by decide)⟩, Nat.le_refl _, by simp⟩
  · simp only [List.cons.injEq, and_true] at hcs
    have hmc : len ≤ m := by rw [hmm]; split <;> omega
    have key : ∀ i : Nat, ∃ s : S95, i < len → W.cell? (a.add (i * 2)) = some (.int .i64 s.f0) ∧ W.cell? (a.add (i * 2 + 1)) = some (.int .i64 s.f1) := by
      intro i
      by_cases hi : i < len
      · obtain ⟨cs, hc, ht⟩ := hf i (by omega)
        rw [show Try.prog.cellsOf 95 = 2 from by kernel_rfl] at hc
        obtain ⟨_, hcl, hat⟩ := World.cells?_some hc
        obtain ⟨ys, n2, _, _, _, hyl, hy⟩ := DataW.trod_struct Try.underlying95 ht
        have hyl2 : ys.length = 2 := hyl
        have c1 : Try.prog.cellsOf 3 = 1 := by kernel_rfl
        obtain ⟨x0, hx0, _, _⟩ := DataW.trod_int Try.underlying3 ((hy 0 _ rfl).trans (List.getElem?_eq_getElem (by omega)))
        obtain ⟨x1, hx1, _, _⟩ := DataW.trod_int Try.underlying3 ((hy 1 _ rfl).trans (List.getElem?_eq_getElem (by omega)))
        have e0 : cs[0]? = some (.int .i64 x0) := by have := congrArg (·[0]?) hx0; simpa [c1] using this
        have e1 : cs[1]? = some (.int .i64 x1) := by have := congrArg (·[0]?) hx1; simpa [c1] using this
        have h0 := hat 0 (by omega)
        have h1 := hat 1 (by omega)
        rw [e0, Go.Deep.add_add, Nat.add_zero] at h0
        rw [e1, Go.Deep.add_add] at h1
        exact ⟨⟨x0, x1⟩, fun _ => ⟨h0, h1⟩⟩
      · exact ⟨⟨0, 0⟩, fun h => absurd h hi⟩
    obtain ⟨f, hf⟩ := Classical.skolem.1 key
    have hlen : ((List.range len).map f).length = len := by simp
    refine ⟨some a, cap, (List.range len).map f, by rw [hlen]; exact hcs, ⟨rfl, by rw [hlen]; simp only [maxLen] at hm; omega, fun _ => ⟨a, rfl, fun j p hp => ?_⟩⟩, by rw [hlen]; exact hl, by rw [hlen]; omega⟩
    have hj : j < len := by have := (List.getElem?_eq_some_iff.1 hp).1; rwa [hlen] at this
    have hpj : f j = p := by simpa [hj] using hp
    subst hpj
    obtain ⟨h0, h1⟩ := hf j hj
    refine ⟨_, rfl, k95_mk W (f j), fun i u hu => ?_⟩
    match i, hu with
    | 0, hu => simp only [List.getElem?_cons_zero, Option.some.injEq] at hu; subst hu; exact h0
    | 1, hu => simp only [List.getElem?_cons_succ, List.getElem?_cons_zero, Option.some.injEq] at hu; subst hu; exact h1
    | i + 2, hu => simp at hu
set_option maxRecDepth 100000 in
theorem lifted (os : Os) (started : os.Started) (H : Type) (enc : TypeId × Value → H) :
    ReturnsInHanded {} Try.checked os 7 .any (Rows.fnExactPutManSpec.pre6 enc Try.prog Try.f7 Rows.fnExactPutManRow.domain false) (Rows.fnExactPutManSpec.post enc Try.prog Try.f7 false true false false) := by
  refine returnsInHanded_of_change_sized (C := Try.checked) own started (by kernel_rfl) Try.func7
    (ChangeSpec.witness6 (enc := enc) (C := Try.checked) false ⟨#[], #[.slice none 0 0, .agg #[.int .i64 0, .int .i64 0, .int .i64 0, .slice none 0 0]], []⟩ 8 (by kernel_rfl) (by kernel_rfl) (by kernel_rfl) (by kernel_rfl)) ?_
  intro W base args ds gs before hval0 hW hcnd hsz0 _
  have hval : ∀ (j : Nat) t v, Try.f7.params[j]? = some t → args[j]? = some v → Value.okWide Try.prog W .any base t v := hval0
  have hW' := hW
  obtain ⟨p, q, hA0, hV, rfl, hfz, hnd⟩ := hW
  have hA : DataW.TrodAll enc Try.prog W 0 (fun _ => true) true Try.f7.params.toList args.toList ds p := hA0
  rw [Try.params7] at hA hval
  obtain ⟨v0, vs0, d0, ds0, p0, q0, hargs, rfl, rfl, h0, r0⟩ := trodAll_cons hA
  obtain ⟨v1, vs1, d1, ds1, p1, q1, rfl, rfl, rfl, h1, r1⟩ := trodAll_cons r0
  obtain ⟨rfl, rfl, rfl⟩ := trodAll_nil r1
  obtain rfl : args = #[v0, v1] := by cases args; simp_all
  obtain ⟨rfl, rfl⟩ := trodVars_none hV
  have k0 := h0
  have lt0 : ∀ x ∈ p0, x.block < W.heap.size := by obtain ⟨m, hm⟩ := k0; exact DataW.trod_lt m _ _ _ hm
  obtain ⟨a0, len0, cap0, rfl⟩ := okWide_slice Try.underlying22 (hval 0 22 v0 rfl rfl)
  obtain ⟨z0, w0⟩ : ∃ zs : List Int, (a0 = none ∧ len0 = 0 ∧ cap0 = 0 ∧ zs = []) ∨ ∃ x, a0 = some x ∧ len0 ≤ cap0 ∧ cap0 ≤ maxLen ∧ zs.length = cap0 ∧ (∀ i, i < zs.length → W.cell? (x.add i) = some (.int .u8 (zs.getD i 0))) ∧ ∀ n ∈ zs, (Lit.int .u8 n).wf = true := by
    obtain ⟨fuel, hf⟩ := h0
    rcases open_ints Try.underlying22 Try.underlying5 (by kernel_rfl) hf with ⟨hcs, _⟩ | ⟨x, l, c, zs, hcs, _, hl, hm, hz, _, hcell, hwz⟩
    · simp [Value.cells] at hcs
      obtain ⟨rfl, rfl, rfl⟩ := hcs
      exact ⟨[], .inl ⟨rfl, rfl, rfl, rfl⟩⟩
    · simp [Value.cells] at hcs
      obtain ⟨rfl, rfl, rfl⟩ := hcs
      exact ⟨zs, .inr ⟨_, rfl, hl, hm, by simpa using hz, hcell, hwz⟩⟩
  obtain ⟨l0, rfl, hr0, hm0, hw0, hc0⟩ := ReadsInt.ofRowC w0
  have k1 := h1
  have lt1 : ∀ x ∈ p1, x.block < W.heap.size := by obtain ⟨m, hm⟩ := k1; exact DataW.trod_lt m _ _ _ hm
  obtain ⟨b10, b11, b12, b13, y10, y11, y12, y13, n1, rfl, rfl, rfl, g10, g11, g12, g13⟩ := open_agg4 Try.underlying25 (by kernel_rfl) (by kernel_rfl) (hval 1 25 v1 rfl rfl) h1
  obtain ⟨c10, hc10, _, _⟩ := DataW.trod_int Try.underlying3 g10
  obtain ⟨c11, hc11, _, _⟩ := DataW.trod_int Try.underlying3 g11
  obtain ⟨c12, hc12, _, _⟩ := DataW.trod_int Try.underlying3 g12
  simp only [List.cons.injEq, and_true] at hc10 hc11 hc12
  subst hc10
  subst hc11
  subst hc12
  obtain ⟨A1, cap1, l1, rfl, hr1, hcc1, hm1⟩ := open_sums g13
  obtain ⟨k, hk⟩ := Pure.FnExactPutMan l0 c10 c11 c12 l1 hm0 hw0 hm1
  clear hA0 hval0 hsz0
  refine (PFnExactPutMan.laws_FnExactPutMan.calls k _ _ l0 c10 c11 c12 _ _ l1 true W (Kd.C_of_reads (d := (0 : Int)) (h1 := fun _ => rfl) hr0) hc0 hr1 hcc1 hk).mono fun e W' ⟨he, bel0⟩ => ?_
  subst he
  have bel : Below W.heap.size W W' := bel0
  exact ⟨_, rfl, _, _, _, [], _, [], hW', trodAll_mk1 (shut_bool Try.underlying4 _), (trodAll_cons_mk (Below.trod laidOut (by kernel_rfl) (of_decide_eq_true (by kernel_rfl)) k0 bel lt0) (trodAll_cons_mk (Below.trod laidOut (by kernel_rfl) (of_decide_eq_true (by kernel_rfl)) k1 bel lt1) trodAll_mk0)), rfl, bel.frame _, fun h => by cases h⟩
theorem over : Rows.fnExactPutManRow.holds Try.pinned (OpenSpec.ofChange Rows.fnExactPutManSpec) :=
  OpenClaim.holds_of_wide 7 Try.f7 rfl rfl rfl rfl rfl rfl rfl ⟨rfl, rfl, rfl, rfl, rfl⟩ rfl rfl rfl rfl rfl (by kernel_rfl) Try.func7 (by kernel_rfl)
    (of_decide_eq_true (by kernel_rfl)) (by unfold Func.isWrapper; first | (rw [if_pos (by decide +kernel)]; kernel_rfl) | (rw [if_neg (by decide +kernel)]; exact ⟨rfl, rfl⟩))
    (fun os started H enc _ => lifted os started H enc)
theorem proved : Rows.FnExactPutManSaid := over
#print axioms proved
end Go.Proofs.Ytdkgcloempbgpaa.fnExactPutMan
namespace Go.Proofs.Ytdkgcloempbgpaa
/-- The row, under a short name, for the claim. -/
theorem fnExactPutMan_holds : Rows.FnExactPutManSaid := fnExactPutMan.proved
end Go.Proofs.Ytdkgcloempbgpaa
