-- by a program of this session (prune.py): the declarations of Made1 that this claim uses
import Derived.Test.YtdodnhjglpidlaaVMade0
set_option linter.unusedVariables false
namespace Go.Proofs.YtdodnhjglpidlaaW.PrintWords
open Go.RowKit
theorem blk_up {g : Nat} {o : Obj} {w W : World} (h : w.heap[g]? = some o) (u : w.heap[g]? = some o → W.heap[g]? = some o := by intro h_; (with_reducible repeat (first | refine Go.Proofs.YtdodnhjglpidlaaW.PrintWords.blk_drewN ?_ _ | refine Go.Proofs.YtdodnhjglpidlaaW.PrintWords.blk_drew ?_ | refine Go.Proofs.YtdodnhjglpidlaaW.PrintWords.blk_alloc ?_ _)); exact h_) : W.heap[g]? = some o := u h
theorem B_set {b : Nat} {w0 w W : World} (h : Below b w0 w) (u : Below b w0 w → Below b w0 W := by intro h_; repeat (first | (with_reducible first | exact h_ | apply Go.Proofs.YtdodnhjglpidlaaW.PrintWords.below_alloc | apply Go.Proofs.YtdodnhjglpidlaaW.PrintWords.pw_below_drewN | apply Go.Proofs.YtdodnhjglpidlaaW.PrintWords.below_drew1 | refine Go.Proofs.YtdodnhjglpidlaaW.PrintWords.below_set ?_ (Aside0.out (by assumption))) | exact h_)) : Below b w0 W := u h
theorem eq_up {α : Type} {a b : α} (u : a = b := by (try simp only [List.map_toArray, List.map_cons, List.map_nil]); first | done | rfl | (simp only [List.length_drop, List.length_take]; rfl)) : a = b := u
end Go.Proofs.YtdodnhjglpidlaaW.PrintWords
