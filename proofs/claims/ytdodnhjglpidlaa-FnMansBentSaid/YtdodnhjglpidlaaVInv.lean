-- by a program of this session (prune.py): the declarations of WInv that this claim uses
import Derived.Test.YtdodnhjglpidlaaVTab
namespace Go.Proofs.YtdodnhjglpidlaaW.PrintLast
def up (b : Nat → Bool) (i : Nat) : Nat → Bool := fun j => if j = i then true else b j
end Go.Proofs.YtdodnhjglpidlaaW.PrintLast
