-- by a program of this session (prune.py): the declarations of Made2 that this claim uses
import Derived.Test.YtdodnhjglpidlaaVMade1
set_option linter.unusedVariables false
namespace Go.Proofs.YtdodnhjglpidlaaW.PrintWords
open Go.RowKit
theorem Mk {p : Prop} (h : p) : Aside0 p := ⟨h⟩
theorem keep_up {w w' W : World} {g : Nat} {r : Option Nat} (h : KeepBut w w' g r) (u : KeepBut w w' g r → KeepBut w W g r := by intro h_; repeat (first | (with_reducible first | exact h_ | apply KeepBut.set_ | apply Go.Proofs.YtdodnhjglpidlaaW.PrintWords.keep_drewN | apply Go.Proofs.YtdodnhjglpidlaaW.PrintWords.keep_drew | apply Go.Proofs.YtdodnhjglpidlaaW.PrintWords.keep_alloc | refine Go.Proofs.YtdodnhjglpidlaaW.PrintWords.keep_far ?_ (Aside0.out (by assumption)) _) | exact h_)) : KeepBut w W g r := u h
theorem cz4 {w : World} {g : Nat} {t : TypeId} {a b c d : Value} (h : w.heap[g]? = some (.cells #[a, b, c, d] t (0, 0))) : w.cell? ⟨g, 0, none⟩ = some a ∧ w.cell? ⟨g, 1, none⟩ = some b ∧ w.cell? ⟨g, 2, none⟩ = some c ∧ w.cell? ⟨g, 3, none⟩ = some d := ⟨(blk_cell h 0).trans rfl, (blk_cell h 1).trans rfl, (blk_cell h 2).trans rfl, (blk_cell h 3).trans rfl⟩
theorem cz2 {w : World} {g : Nat} {t : TypeId} {a b : Value} (h : w.heap[g]? = some (.cells #[a, b] t (0, 0))) : w.cell? ⟨g, 0, none⟩ = some a ∧ w.cell? ⟨g, 1, none⟩ = some b := ⟨(blk_cell h 0).trans rfl, (blk_cell h 1).trans rfl⟩
theorem fz4 {w : World} {g : Nat} {t : TypeId} {cs : Array Value} (h : w.heap[g]? = some (.cells cs t (0, 0))) : w.frozen? ⟨g, 0, none⟩ = false ∧ w.frozen? ⟨g, 1, none⟩ = false ∧ w.frozen? ⟨g, 2, none⟩ = false ∧ w.frozen? ⟨g, 3, none⟩ = false := ⟨blk_frozen h 0, blk_frozen h 1, blk_frozen h 2, blk_frozen h 3⟩
theorem fz2 {w : World} {g : Nat} {t : TypeId} {cs : Array Value} (h : w.heap[g]? = some (.cells cs t (0, 0))) : w.frozen? ⟨g, 0, none⟩ = false ∧ w.frozen? ⟨g, 1, none⟩ = false := ⟨blk_frozen h 0, blk_frozen h 1⟩
theorem bsm {α β : Type} {x : Option α} {f : α → Option β} {r : β} (h : x.bind f = some r) : ∃ t, Aside0 (x = some t) ∧ f t = some r := by
  obtain ⟨t, a, b⟩ := Option.bind_eq_some_iff.mp h
  exact ⟨t, ⟨a⟩, b⟩
theorem ofd {p : Prop} [Decidable p] (h : decide p = true := by first | (with_reducible assumption) | assumption) : p := of_decide_eq_true h
theorem eqs_ {α : Sort _} {a b : α} (h : a = b := by first | rfl | (simp; done) | (simp [*]; done)) : a = b := h
end Go.Proofs.YtdodnhjglpidlaaW.PrintWords
