-- by a program of this session (prune.py): the declarations of Made0 that this claim uses
import Derived.Test.YtdodnhjglpidlaaVMore
set_option linter.unusedVariables false
namespace Go.Proofs.YtdodnhjglpidlaaW.PrintWords
open Go.RowKit
namespace Kd
section
variable {P : Program} {ops : Array Oper} {rest : List Oper} {o : Oper} {a : Act} {Q : Exit → Act → World → Prop} {W : World} {α : Type}
theorem R_make0 (d : Kd α) {w0 W : World} (base e : Nat) (hgd : o.guard = none) {N : Tmp} (hd : o.dst = some N) (t : TypeId) (x y : Operand) (ho : o.op = .makeSlice t x y) (n : Int) (hx : a.eval x = .int .i64 0) (hy : a.eval y = .int .i64 n)
    (ht : P.underlying t = some (.slice e)) (z : Value) (bytes : Nat) (hinfo : (P.info? e).map (fun i => (i.zero, i.size, i.bytes)) = some (some z, d.sz, bytes)) (hz : z.cells.size = d.sz) (hs0 : 0 < d.sz) (hb0 : 0 < bytes)
    (z0 : α) {ok : Nat → Prop} (hfresh : ok W.heap.size) (h0 : 0 ≤ n) (hl : n.toNat * bytes ≤ 281474976710656) (HB : Below base w0 W) (hbase : base ≤ W.heap.size)
    (h : ∀ v1 w1, d.R e w1 base ok v1 (List.replicate 0 z0) → Below base w0 w1 → W.grownBy w1 none → (∃ b, v1.ownBlock = some b ∧ W.heap.size ≤ b) → wpList P ops Q rest (a.put o.dst v1) w1) : wpList P ops Q (o :: rest) a W := by
  obtain ⟨m, rfl⟩ := Int.eq_ofNat_of_zero_le h0
  simp only [Int.toNat_natCast] at hl
  obtain ⟨i0, hi, hzz⟩ := Option.map_eq_some_iff.1 hinfo
  simp only [Prod.mk.injEq] at hzz
  obtain ⟨hz0, hz1, hz2⟩ := hzz
  have hm : m ≤ 281474976710656 := Nat.le_trans (Nat.le_mul_of_pos_right _ hb0) hl
  obtain ⟨w1, hr, hown, hg⟩ := run_make_own (P := P) W base t e i0 z d.sz ht hi hz0 hz1 .i64 .i64 m (by rw [hz2, Nat.mul_comm]; exact hl) (by simp only [maxLen]; omega) hbase
  refine event_run (w1 := w1) (v := .slice (some ⟨W.heap.size, 0, none⟩) 0 m) hgd ?_ (h _ _ ⟨fun k hk => ?_, [], by simpa using hown, ?_⟩ (pw_below_grown HB none hbase hg (fun k hk => by cases hk)) hg ⟨W.heap.size, by simp [Value.ownBlock], Nat.le_refl _⟩)
  · simp [execOp, ho, hx, hy, hr]
  · have : W.heap.size = k := by simpa [Value.ownBlock] using hk
    subst this
    exact hfresh
  · exact Reps.none _ _
end
section
variable {α : Type} {d : Kd α} {e base n : Nat} {ok : Nat → Prop} {w W : World} {v : Value} {xs : List α} {A : Option Addr}
theorem R_up (h : d.R e w base ok v xs) (u : d.R e w base ok v xs → d.R e W base ok v xs := by intro h_; (with_reducible repeat (first | apply Go.Proofs.YtdodnhjglpidlaaW.PrintWords.Kd.R_alloc | apply Go.Proofs.YtdodnhjglpidlaaW.PrintWords.Kd.R_drewN | apply Go.Proofs.YtdodnhjglpidlaaW.PrintWords.Kd.R_drew)); exact h_) : d.R e W base ok v xs := u h
theorem C_up (h : d.C w A n xs) (u : d.C w A n xs → d.C W A n xs := by intro h_; repeat (first | exact h_ | (with_reducible refine Go.Proofs.YtdodnhjglpidlaaW.PrintWords.Kd.C_alloc ?_ _) | (with_reducible refine Go.Proofs.YtdodnhjglpidlaaW.PrintWords.Kd.C_drewN ?_ _) | (with_reducible refine Go.Proofs.YtdodnhjglpidlaaW.PrintWords.Kd.C_drew ?_))) : d.C W A n xs := u h
end
end Kd
theorem B_up {b : Nat} {w0 w W : World} (h : Below b w0 w) (u : Below b w0 w → Below b w0 W := by intro h_; repeat (first | (with_reducible first | exact h_ | apply Go.Proofs.YtdodnhjglpidlaaW.PrintWords.below_alloc | apply Go.Proofs.YtdodnhjglpidlaaW.PrintWords.pw_below_drewN | apply Go.Proofs.YtdodnhjglpidlaaW.PrintWords.below_drew1) | exact h_)) : Below b w0 W := u h
end Go.Proofs.YtdodnhjglpidlaaW.PrintWords
