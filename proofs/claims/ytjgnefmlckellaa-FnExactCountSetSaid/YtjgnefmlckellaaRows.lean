/-
  No cell of these rows narrows 'for every input' (looked for: loops, veiled, ifaces, maps, wideKeys, modest, calm, conditions, laid).
  DERIVED. THE GIVEN ROWS OF THIS SEAT. 12 by the template 'for every input the law returns true; each argument reads behind the call as it read before'; 0 by the template 'total and deterministic' (their statements: YtjgnefmlckellaaTotals.lean).
  GIVEN WITH THE SEED: the statements are not yours to turn. If you find one false, say at which input.
  Laid BY PROGRAM, IN A SANDBOX (cutbox-rows.mjs): the forced cells as the released guide's own fill.sh prints them over the translation 5de7879062081cbe… (all of the seat's roots in one cut). By AI agents, Wed Nov 11 2026. No macro, syntax, notation, axiom, sorry.
-/
import Derived.Test.YtjgnefmlckellaaChecked
import GoSem.Claim
import GoSem.ClaimJoined
import GoSem.ClaimMapViews
import Derived.JoinedTies
import Derived.KernelRfl
namespace Go.Proofs.Ytjgnefmlckellaa
/- THE CELL 'sum', in the pinned program and in every row, IS THE sha256 OF THE DUMP (.gsa) THAT YtjgnefmlckellaaProg.lean LOADS. Nothing in Lean hashes anything: it is a label: what it is worth is what the hold of that sum in a sandbox is worth. -/
noncomputable def Try.pinned : Pinned := { name := "ytjgnefmlckellaa", sum := "5de7879062081cbe0dcd5c13ebc21efbe42ffc691415ff2f1bd284c809358126", checked := Try.checked }
namespace Rows
def none {H : Type} : Left H := { results := [], args := [] }

/-- 'laws.FnExactSameBytes': WHATEVER THE INPUT: true; the input reads as it did. -/
def fnExactSameBytesSpec : ChangeSpec := { name := "fnExactSameBytes", fn := fun _ => fun
  | [d1, d2] => { results := [.lit (.bool true)], args := [d1, d2] }
  | _ => none }
def fnExactSameBytesRow : OpenClaim := { program := "ytjgnefmlckellaa", sum := "5de7879062081cbe0dcd5c13ebc21efbe42ffc691415ff2f1bd284c809358126", func := "loop.example/g00503/laws.FnExactSameBytes", spec := "fnExactSameBytes", apart := false }
def FnExactSameBytesSaid : Prop := fnExactSameBytesRow.holds Try.pinned (OpenSpec.ofChange fnExactSameBytesSpec)

/-- ITS FALSE NEIGHBOUR: 'it returns false'. Refute it at one input. -/
def fnExactSameBytesWrong : ChangeSpec := { name := "fnExactSameBytes", fn := fun _ => fun
  | [d1, d2] => { results := [.lit (.bool false)], args := [d1, d2] }
  | _ => none }
def FnExactSameBytesWrongFalsely : Prop := fnExactSameBytesRow.holds Try.pinned (OpenSpec.ofChange fnExactSameBytesWrong)

/-- 'laws.FnExactBlocks': WHATEVER THE INPUT: true; the input reads as it did. -/
def fnExactBlocksSpec : ChangeSpec := { name := "fnExactBlocks", fn := fun _ => fun
  | [d1, d2] => { results := [.lit (.bool true)], args := [d1, d2] }
  | _ => none }
def fnExactBlocksRow : OpenClaim := { program := "ytjgnefmlckellaa", sum := "5de7879062081cbe0dcd5c13ebc21efbe42ffc691415ff2f1bd284c809358126", func := "loop.example/g00503/laws.FnExactBlocks", spec := "fnExactBlocks", apart := false }
def FnExactBlocksSaid : Prop := fnExactBlocksRow.holds Try.pinned (OpenSpec.ofChange fnExactBlocksSpec)

/-- ITS FALSE NEIGHBOUR: 'it returns false'. Refute it at one input. -/
def fnExactBlocksWrong : ChangeSpec := { name := "fnExactBlocks", fn := fun _ => fun
  | [d1, d2] => { results := [.lit (.bool false)], args := [d1, d2] }
  | _ => none }
def FnExactBlocksWrongFalsely : Prop := fnExactBlocksRow.holds Try.pinned (OpenSpec.ofChange fnExactBlocksWrong)

/-- 'laws.FnExactFirstOf': WHATEVER THE INPUT: true; the input reads as it did. -/
def fnExactFirstOfSpec : ChangeSpec := { name := "fnExactFirstOf", fn := fun _ => fun
  | [d1, d2] => { results := [.lit (.bool true)], args := [d1, d2] }
  | _ => none }
def fnExactFirstOfRow : OpenClaim := { program := "ytjgnefmlckellaa", sum := "5de7879062081cbe0dcd5c13ebc21efbe42ffc691415ff2f1bd284c809358126", func := "loop.example/g00503/laws.FnExactFirstOf", spec := "fnExactFirstOf", apart := false }
def FnExactFirstOfSaid : Prop := fnExactFirstOfRow.holds Try.pinned (OpenSpec.ofChange fnExactFirstOfSpec)

/-- ITS FALSE NEIGHBOUR: 'it returns false'. Refute it at one input. -/
def fnExactFirstOfWrong : ChangeSpec := { name := "fnExactFirstOf", fn := fun _ => fun
  | [d1, d2] => { results := [.lit (.bool false)], args := [d1, d2] }
  | _ => none }
def FnExactFirstOfWrongFalsely : Prop := fnExactFirstOfRow.holds Try.pinned (OpenSpec.ofChange fnExactFirstOfWrong)

/-- 'laws.FnExactWeakOf': WHATEVER THE INPUT: true; the input reads as it did. -/
def fnExactWeakOfSpec : ChangeSpec := { name := "fnExactWeakOf", fn := fun _ => fun
  | [d] => { results := [.lit (.bool true)], args := [d] }
  | _ => none }
def fnExactWeakOfRow : OpenClaim := { program := "ytjgnefmlckellaa", sum := "5de7879062081cbe0dcd5c13ebc21efbe42ffc691415ff2f1bd284c809358126", func := "loop.example/g00503/laws.FnExactWeakOf", spec := "fnExactWeakOf", apart := false }
def FnExactWeakOfSaid : Prop := fnExactWeakOfRow.holds Try.pinned (OpenSpec.ofChange fnExactWeakOfSpec)

/-- ITS FALSE NEIGHBOUR: 'it returns false'. Refute it at one input. -/
def fnExactWeakOfWrong : ChangeSpec := { name := "fnExactWeakOf", fn := fun _ => fun
  | [d] => { results := [.lit (.bool false)], args := [d] }
  | _ => none }
def FnExactWeakOfWrongFalsely : Prop := fnExactWeakOfRow.holds Try.pinned (OpenSpec.ofChange fnExactWeakOfWrong)

/-- 'laws.FnExactWeakJoin': WHATEVER THE INPUT: true; the input reads as it did. -/
def fnExactWeakJoinSpec : ChangeSpec := { name := "fnExactWeakJoin", fn := fun _ => fun
  | [d1, d2, d3] => { results := [.lit (.bool true)], args := [d1, d2, d3] }
  | _ => none }
def fnExactWeakJoinRow : OpenClaim := { program := "ytjgnefmlckellaa", sum := "5de7879062081cbe0dcd5c13ebc21efbe42ffc691415ff2f1bd284c809358126", func := "loop.example/g00503/laws.FnExactWeakJoin", spec := "fnExactWeakJoin", apart := false }
def FnExactWeakJoinSaid : Prop := fnExactWeakJoinRow.holds Try.pinned (OpenSpec.ofChange fnExactWeakJoinSpec)

/-- ITS FALSE NEIGHBOUR: 'it returns false'. Refute it at one input. -/
def fnExactWeakJoinWrong : ChangeSpec := { name := "fnExactWeakJoin", fn := fun _ => fun
  | [d1, d2, d3] => { results := [.lit (.bool false)], args := [d1, d2, d3] }
  | _ => none }
def FnExactWeakJoinWrongFalsely : Prop := fnExactWeakJoinRow.holds Try.pinned (OpenSpec.ofChange fnExactWeakJoinWrong)

/-- 'laws.FnExactRoll': WHATEVER THE INPUT: true; the input reads as it did. -/
def fnExactRollSpec : ChangeSpec := { name := "fnExactRoll", fn := fun _ => fun
  | [d1, d2, d3, d4] => { results := [.lit (.bool true)], args := [d1, d2, d3, d4] }
  | _ => none }
def fnExactRollRow : OpenClaim := { program := "ytjgnefmlckellaa", sum := "5de7879062081cbe0dcd5c13ebc21efbe42ffc691415ff2f1bd284c809358126", func := "loop.example/g00503/laws.FnExactRoll", spec := "fnExactRoll", apart := false }
def FnExactRollSaid : Prop := fnExactRollRow.holds Try.pinned (OpenSpec.ofChange fnExactRollSpec)

/-- ITS FALSE NEIGHBOUR: 'it returns false'. Refute it at one input. -/
def fnExactRollWrong : ChangeSpec := { name := "fnExactRoll", fn := fun _ => fun
  | [d1, d2, d3, d4] => { results := [.lit (.bool false)], args := [d1, d2, d3, d4] }
  | _ => none }
def FnExactRollWrongFalsely : Prop := fnExactRollRow.holds Try.pinned (OpenSpec.ofChange fnExactRollWrong)

/-- 'laws.FnExactSlice': WHATEVER THE INPUT: true; the input reads as it did. -/
def fnExactSliceSpec : ChangeSpec := { name := "fnExactSlice", fn := fun _ => fun
  | [d1, d2, d3] => { results := [.lit (.bool true)], args := [d1, d2, d3] }
  | _ => none }
def fnExactSliceRow : OpenClaim := { program := "ytjgnefmlckellaa", sum := "5de7879062081cbe0dcd5c13ebc21efbe42ffc691415ff2f1bd284c809358126", func := "loop.example/g00503/laws.FnExactSlice", spec := "fnExactSlice", apart := false }
def FnExactSliceSaid : Prop := fnExactSliceRow.holds Try.pinned (OpenSpec.ofChange fnExactSliceSpec)

/-- ITS FALSE NEIGHBOUR: 'it returns false'. Refute it at one input. -/
def fnExactSliceWrong : ChangeSpec := { name := "fnExactSlice", fn := fun _ => fun
  | [d1, d2, d3] => { results := [.lit (.bool false)], args := [d1, d2, d3] }
  | _ => none }
def FnExactSliceWrongFalsely : Prop := fnExactSliceRow.holds Try.pinned (OpenSpec.ofChange fnExactSliceWrong)

/-- 'laws.FnExactSpanOf': WHATEVER THE INPUT: true; the input reads as it did. -/
def fnExactSpanOfSpec : ChangeSpec := { name := "fnExactSpanOf", fn := fun _ => fun
  | [d1, d2, d3] => { results := [.lit (.bool true)], args := [d1, d2, d3] }
  | _ => none }
def fnExactSpanOfRow : OpenClaim := { program := "ytjgnefmlckellaa", sum := "5de7879062081cbe0dcd5c13ebc21efbe42ffc691415ff2f1bd284c809358126", func := "loop.example/g00503/laws.FnExactSpanOf", spec := "fnExactSpanOf", apart := false }
def FnExactSpanOfSaid : Prop := fnExactSpanOfRow.holds Try.pinned (OpenSpec.ofChange fnExactSpanOfSpec)

/-- ITS FALSE NEIGHBOUR: 'it returns false'. Refute it at one input. -/
def fnExactSpanOfWrong : ChangeSpec := { name := "fnExactSpanOf", fn := fun _ => fun
  | [d1, d2, d3] => { results := [.lit (.bool false)], args := [d1, d2, d3] }
  | _ => none }
def FnExactSpanOfWrongFalsely : Prop := fnExactSpanOfRow.holds Try.pinned (OpenSpec.ofChange fnExactSpanOfWrong)

/-- 'laws.FnExactCountSet': WHATEVER THE INPUT: true; the input reads as it did. -/
def fnExactCountSetSpec : ChangeSpec := { name := "fnExactCountSet", fn := fun _ => fun
  | [d] => { results := [.lit (.bool true)], args := [d] }
  | _ => none }
def fnExactCountSetRow : OpenClaim := { program := "ytjgnefmlckellaa", sum := "5de7879062081cbe0dcd5c13ebc21efbe42ffc691415ff2f1bd284c809358126", func := "loop.example/g00503/laws.FnExactCountSet", spec := "fnExactCountSet", apart := false }
def FnExactCountSetSaid : Prop := fnExactCountSetRow.holds Try.pinned (OpenSpec.ofChange fnExactCountSetSpec)

/-- ITS FALSE NEIGHBOUR: 'it returns false'. Refute it at one input. -/
def fnExactCountSetWrong : ChangeSpec := { name := "fnExactCountSet", fn := fun _ => fun
  | [d] => { results := [.lit (.bool false)], args := [d] }
  | _ => none }
def FnExactCountSetWrongFalsely : Prop := fnExactCountSetRow.holds Try.pinned (OpenSpec.ofChange fnExactCountSetWrong)

/-- 'laws.FnExactPartsIn': WHATEVER THE INPUT: true; the input reads as it did. -/
def fnExactPartsInSpec : ChangeSpec := { name := "fnExactPartsIn", fn := fun _ => fun
  | [d] => { results := [.lit (.bool true)], args := [d] }
  | _ => none }
def fnExactPartsInRow : OpenClaim := { program := "ytjgnefmlckellaa", sum := "5de7879062081cbe0dcd5c13ebc21efbe42ffc691415ff2f1bd284c809358126", func := "loop.example/g00503/laws.FnExactPartsIn", spec := "fnExactPartsIn", apart := false }
def FnExactPartsInSaid : Prop := fnExactPartsInRow.holds Try.pinned (OpenSpec.ofChange fnExactPartsInSpec)

/-- ITS FALSE NEIGHBOUR: 'it returns false'. Refute it at one input. -/
def fnExactPartsInWrong : ChangeSpec := { name := "fnExactPartsIn", fn := fun _ => fun
  | [d] => { results := [.lit (.bool false)], args := [d] }
  | _ => none }
def FnExactPartsInWrongFalsely : Prop := fnExactPartsInRow.holds Try.pinned (OpenSpec.ofChange fnExactPartsInWrong)

/-- 'laws.FnExactBytesOf': WHATEVER THE INPUT: true; the input reads as it did. -/
def fnExactBytesOfSpec : ChangeSpec := { name := "fnExactBytesOf", fn := fun _ => fun
  | [d] => { results := [.lit (.bool true)], args := [d] }
  | _ => none }
def fnExactBytesOfRow : OpenClaim := { program := "ytjgnefmlckellaa", sum := "5de7879062081cbe0dcd5c13ebc21efbe42ffc691415ff2f1bd284c809358126", func := "loop.example/g00503/laws.FnExactBytesOf", spec := "fnExactBytesOf", apart := false }
def FnExactBytesOfSaid : Prop := fnExactBytesOfRow.holds Try.pinned (OpenSpec.ofChange fnExactBytesOfSpec)

/-- ITS FALSE NEIGHBOUR: 'it returns false'. Refute it at one input. -/
def fnExactBytesOfWrong : ChangeSpec := { name := "fnExactBytesOf", fn := fun _ => fun
  | [d] => { results := [.lit (.bool false)], args := [d] }
  | _ => none }
def FnExactBytesOfWrongFalsely : Prop := fnExactBytesOfRow.holds Try.pinned (OpenSpec.ofChange fnExactBytesOfWrong)

/-- 'laws.FnExactGetVar': WHATEVER THE INPUT: true; the input reads as it did. -/
def fnExactGetVarSpec : ChangeSpec := { name := "fnExactGetVar", fn := fun _ => fun
  | [d1, d2] => { results := [.lit (.bool true)], args := [d1, d2] }
  | _ => none }
def fnExactGetVarRow : OpenClaim := { program := "ytjgnefmlckellaa", sum := "5de7879062081cbe0dcd5c13ebc21efbe42ffc691415ff2f1bd284c809358126", func := "loop.example/g00503/laws.FnExactGetVar", spec := "fnExactGetVar", apart := false }
def FnExactGetVarSaid : Prop := fnExactGetVarRow.holds Try.pinned (OpenSpec.ofChange fnExactGetVarSpec)

/-- ITS FALSE NEIGHBOUR: 'it returns false'. Refute it at one input. -/
def fnExactGetVarWrong : ChangeSpec := { name := "fnExactGetVar", fn := fun _ => fun
  | [d1, d2] => { results := [.lit (.bool false)], args := [d1, d2] }
  | _ => none }
def FnExactGetVarWrongFalsely : Prop := fnExactGetVarRow.holds Try.pinned (OpenSpec.ofChange fnExactGetVarWrong)

/- THE SECOND FORM. 'bulk': how many values and letters a reading holds, each counted each time it is reached (what is shared counts as often as it is met; a slice's spare places count too). A statement '..UptoSaid' is the law's where the arguments, and the package variables that the reading takes, are together of bulk at most 1048576: NARROWER than '..Said'. Prove '..Said' where nothing that the law and all that it calls make is longer than what came in: it says more and counts as full. Else prove '..UptoSaid'. A law counts once. -/
mutual
def uptoBulk {H : Type} : DataW H → Nat
  | .lit (.string bytes) => bytes.length + 1
  | .lit _ => 1
  | .nil => 1
  | .ptr d => uptoBulk d + 1
  | .slice elems spare => uptoBulkAll elems + uptoBulkAll spare + 1
  | .agg parts => uptoBulkAll parts + 1
  | .iface _ d => uptoBulk d + 1
  | .map entries => uptoBulkEntries entries + 1
  | .held _ => 1
def uptoBulkAll {H : Type} : List (DataW H) → Nat
  | [] => 0
  | d :: r => uptoBulk d + uptoBulkAll r
def uptoBulkEntries {H : Type} : List (Lit × DataW H) → Nat
  | [] => 0
  | x :: r => uptoBulkEntry x + uptoBulkEntries r
def uptoBulkEntry {H : Type} : Lit × DataW H → Nat
  | (.string bytes, d) => bytes.length + uptoBulk d + 1
  | (_, d) => uptoBulk d + 1
 end
def uptoSmall : (H : Type) → List (DataW H) → Bool := fun _ ds => decide (uptoBulkAll ds ≤ 1048576)
def OpenSpec.upto (s : _root_.Go.ChangeSpec) : _root_.Go.OpenSpec := { _root_.Go.OpenSpec.ofChange s with cond := some uptoSmall }

/-- 'laws.FnExactSameBytes', WHERE WHAT IT READS IS OF BULK AT MOST 1048576: true; the input reads as it did. -/
def fnExactSameBytesUptoRow : OpenClaim := { program := "ytjgnefmlckellaa", sum := "5de7879062081cbe0dcd5c13ebc21efbe42ffc691415ff2f1bd284c809358126", func := "loop.example/g00503/laws.FnExactSameBytes", spec := "fnExactSameBytes", apart := false, narrowed := true }
def FnExactSameBytesUptoSaid : Prop := fnExactSameBytesUptoRow.holds Try.pinned (OpenSpec.upto fnExactSameBytesSpec)

/-- 'laws.FnExactBlocks', WHERE WHAT IT READS IS OF BULK AT MOST 1048576: true; the input reads as it did. -/
def fnExactBlocksUptoRow : OpenClaim := { program := "ytjgnefmlckellaa", sum := "5de7879062081cbe0dcd5c13ebc21efbe42ffc691415ff2f1bd284c809358126", func := "loop.example/g00503/laws.FnExactBlocks", spec := "fnExactBlocks", apart := false, narrowed := true }
def FnExactBlocksUptoSaid : Prop := fnExactBlocksUptoRow.holds Try.pinned (OpenSpec.upto fnExactBlocksSpec)

/-- 'laws.FnExactFirstOf', WHERE WHAT IT READS IS OF BULK AT MOST 1048576: true; the input reads as it did. -/
def fnExactFirstOfUptoRow : OpenClaim := { program := "ytjgnefmlckellaa", sum := "5de7879062081cbe0dcd5c13ebc21efbe42ffc691415ff2f1bd284c809358126", func := "loop.example/g00503/laws.FnExactFirstOf", spec := "fnExactFirstOf", apart := false, narrowed := true }
def FnExactFirstOfUptoSaid : Prop := fnExactFirstOfUptoRow.holds Try.pinned (OpenSpec.upto fnExactFirstOfSpec)

/-- 'laws.FnExactWeakOf', WHERE WHAT IT READS IS OF BULK AT MOST 1048576: true; the input reads as it did. -/
def fnExactWeakOfUptoRow : OpenClaim := { program := "ytjgnefmlckellaa", sum := "5de7879062081cbe0dcd5c13ebc21efbe42ffc691415ff2f1bd284c809358126", func := "loop.example/g00503/laws.FnExactWeakOf", spec := "fnExactWeakOf", apart := false, narrowed := true }
def FnExactWeakOfUptoSaid : Prop := fnExactWeakOfUptoRow.holds Try.pinned (OpenSpec.upto fnExactWeakOfSpec)

/-- 'laws.FnExactWeakJoin', WHERE WHAT IT READS IS OF BULK AT MOST 1048576: true; the input reads as it did. -/
def fnExactWeakJoinUptoRow : OpenClaim := { program := "ytjgnefmlckellaa", sum := "5de7879062081cbe0dcd5c13ebc21efbe42ffc691415ff2f1bd284c809358126", func := "loop.example/g00503/laws.FnExactWeakJoin", spec := "fnExactWeakJoin", apart := false, narrowed := true }
def FnExactWeakJoinUptoSaid : Prop := fnExactWeakJoinUptoRow.holds Try.pinned (OpenSpec.upto fnExactWeakJoinSpec)

/-- 'laws.FnExactRoll', WHERE WHAT IT READS IS OF BULK AT MOST 1048576: true; the input reads as it did. -/
def fnExactRollUptoRow : OpenClaim := { program := "ytjgnefmlckellaa", sum := "5de7879062081cbe0dcd5c13ebc21efbe42ffc691415ff2f1bd284c809358126", func := "loop.example/g00503/laws.FnExactRoll", spec := "fnExactRoll", apart := false, narrowed := true }
def FnExactRollUptoSaid : Prop := fnExactRollUptoRow.holds Try.pinned (OpenSpec.upto fnExactRollSpec)

/-- 'laws.FnExactSlice', WHERE WHAT IT READS IS OF BULK AT MOST 1048576: true; the input reads as it did. -/
def fnExactSliceUptoRow : OpenClaim := { program := "ytjgnefmlckellaa", sum := "5de7879062081cbe0dcd5c13ebc21efbe42ffc691415ff2f1bd284c809358126", func := "loop.example/g00503/laws.FnExactSlice", spec := "fnExactSlice", apart := false, narrowed := true }
def FnExactSliceUptoSaid : Prop := fnExactSliceUptoRow.holds Try.pinned (OpenSpec.upto fnExactSliceSpec)

/-- 'laws.FnExactSpanOf', WHERE WHAT IT READS IS OF BULK AT MOST 1048576: true; the input reads as it did. -/
def fnExactSpanOfUptoRow : OpenClaim := { program := "ytjgnefmlckellaa", sum := "5de7879062081cbe0dcd5c13ebc21efbe42ffc691415ff2f1bd284c809358126", func := "loop.example/g00503/laws.FnExactSpanOf", spec := "fnExactSpanOf", apart := false, narrowed := true }
def FnExactSpanOfUptoSaid : Prop := fnExactSpanOfUptoRow.holds Try.pinned (OpenSpec.upto fnExactSpanOfSpec)

/-- 'laws.FnExactCountSet', WHERE WHAT IT READS IS OF BULK AT MOST 1048576: true; the input reads as it did. -/
def fnExactCountSetUptoRow : OpenClaim := { program := "ytjgnefmlckellaa", sum := "5de7879062081cbe0dcd5c13ebc21efbe42ffc691415ff2f1bd284c809358126", func := "loop.example/g00503/laws.FnExactCountSet", spec := "fnExactCountSet", apart := false, narrowed := true }
def FnExactCountSetUptoSaid : Prop := fnExactCountSetUptoRow.holds Try.pinned (OpenSpec.upto fnExactCountSetSpec)

/-- 'laws.FnExactPartsIn', WHERE WHAT IT READS IS OF BULK AT MOST 1048576: true; the input reads as it did. -/
def fnExactPartsInUptoRow : OpenClaim := { program := "ytjgnefmlckellaa", sum := "5de7879062081cbe0dcd5c13ebc21efbe42ffc691415ff2f1bd284c809358126", func := "loop.example/g00503/laws.FnExactPartsIn", spec := "fnExactPartsIn", apart := false, narrowed := true }
def FnExactPartsInUptoSaid : Prop := fnExactPartsInUptoRow.holds Try.pinned (OpenSpec.upto fnExactPartsInSpec)

/-- 'laws.FnExactBytesOf', WHERE WHAT IT READS IS OF BULK AT MOST 1048576: true; the input reads as it did. -/
def fnExactBytesOfUptoRow : OpenClaim := { program := "ytjgnefmlckellaa", sum := "5de7879062081cbe0dcd5c13ebc21efbe42ffc691415ff2f1bd284c809358126", func := "loop.example/g00503/laws.FnExactBytesOf", spec := "fnExactBytesOf", apart := false, narrowed := true }
def FnExactBytesOfUptoSaid : Prop := fnExactBytesOfUptoRow.holds Try.pinned (OpenSpec.upto fnExactBytesOfSpec)

/-- 'laws.FnExactGetVar', WHERE WHAT IT READS IS OF BULK AT MOST 1048576: true; the input reads as it did. -/
def fnExactGetVarUptoRow : OpenClaim := { program := "ytjgnefmlckellaa", sum := "5de7879062081cbe0dcd5c13ebc21efbe42ffc691415ff2f1bd284c809358126", func := "loop.example/g00503/laws.FnExactGetVar", spec := "fnExactGetVar", apart := false, narrowed := true }
def FnExactGetVarUptoSaid : Prop := fnExactGetVarUptoRow.holds Try.pinned (OpenSpec.upto fnExactGetVarSpec)

end Rows
end Go.Proofs.Ytjgnefmlckellaa
